-- Written by a program of this session.
import Derived.Test.YtllmlnagihlokaaPFnExactBoundsOfx0
import Derived.Test.YtllmlnagihlokaaPFnExactBoundsOfx10
import Derived.Test.YtllmlnagihlokaaPFnExactBoundsOfx13
namespace Go.Proofs.Ytllmlnagihlokaa.PFnExactBoundsOf
open Go.RowKit Go.Proofs.YtllmlnagihlokaaW.PrintWords Go.Proofs.YtllmlnagihlokaaW.PrintLast Go.Proofs.YtllmlnagihlokaaW.PrintMore
attribute [local go_sem] max2_int min2_int max_two min_two max_three min_three max_four min_four hw_string_geq hw_string_gtr hw_string_leq
set_option linter.unusedVariables false
set_option linter.unusedSimpArgs false
/-! ### bytes_Equal: function 60 -/
def bytes_Equal.f (l0 : List Int) (l1 : List Int) : Option (Bool) := some ((strOfNums l0).toList == (strOfNums l1).toList)
set_option maxHeartbeats 8000000 in
set_option maxRecDepth 100000 in
theorem bytes_Equal.calls (A0 : Option Addr) (c0 : Nat) (l0 : List Int) (A1 : Option Addr) (c1 : Nat) (l1 : List Int) (r : Bool) (w : World) (hr0 : Kd.C (Kd.int .u8) w A0 l0.length l0) (hc0 : l0.length ≤ c0) (hr1 : Kd.C (Kd.int .u8) w A1 l1.length l1) (hc1 : l1.length ≤ c1) (h : bytes_Equal.f l0 l1 = some r) :
  Calls Try.prog 60 #[.slice A0 l0.length c0, .slice A1 l1.length c1] w fun e w' => e = .returned (.bool r) ∧ Drawn0 w w' := by
 have HR0 := Aside0.mk hr0
 have HC0 := Aside0.mk hc0
 clear hr0 hc0
 have HR1 := Aside0.mk hr1
 have HC1 := Aside0.mk hc1
 clear hr1 hc1
 have H : (some ((strOfNums l0).toList == (strOfNums l1).toList)) = some r := h
 clear h
 obtain rfl := Option.some.inj H
 have hcv3 := Kd.C_string (P := Try.prog) (A := A0) (c := c0) Try.underlying24 Try.underlying5 Try.underlying9 HR0.out
 have hcv4 := Kd.C_string (P := Try.prog) (A := A1) (c := c1) Try.underlying24 Try.underlying5 Try.underlying9 HR1.out
 go_enter Try.func60, Try.ntmps60
 go_wp2
 go_ret
 exact ⟨sE, dR⟩
/-! ### impl_ReadFixed: function 88 -/
mutual
def impl_ReadFixed.j0 : Nat → List Int → Int → Int → Bool → Option (Int × Bool)
 | 0, _, _, _, _ => none
 | k + 1, x0, x1, x2, x22 => if x22 = true then (some (0, false)) else (if 0 ≤ x1 then (if x1 ≤ (wrap64 (x1 + x2)) then (if (wrap64 (x1 + x2)) ≤ (x0.length : Int) then (impl_ReadFixed.l0 k 0 ((x0.take ((wrap64 (x1 + x2)) : Int).toNat).drop (x1 : Int).toNat) (((x0.take ((wrap64 (x1 + x2)) : Int).toNat).drop (x1 : Int).toNat).length : Int) 0) else (none)) else (none)) else (none))
def impl_ReadFixed.l0 : Nat → Int → List Int → Int → Int → Option (Int × Bool)
 | 0, _, _, _, _ => none
 | k + 1, x8, x28, x29, x30 => if x30 < x29 then (if 0 ≤ x30 then (if x30 < (x28.length : Int) then (impl_ReadFixed.l0 k (Go.bits .or .u64 (IntKind.u64.wrap (x8 * 256)) (IntKind.u64.wrap (rd x28 x30))) x28 x29 (wrap64 (x30 + 1))) else (none)) else (none)) else (if (x8 / 9223372036854775808) = 0 then (some (wrap64 (x8), true)) else (some (0, false)))
end
def impl_ReadFixed.f (k : Nat) (l0 : List Int) (a1 : Int) (a2 : Int) : Option (Int × Bool) := (impl_within.f a2 1 8).bind fun t315 => (if t315 = true then ((impl_within.f a1 0 (wrap64 ((l0.length : Int) - a2))).bind fun t316 => (impl_ReadFixed.j0 k l0 a1 a2 (!t316))) else (impl_ReadFixed.j0 k l0 a1 a2 true))
set_option maxHeartbeats 8000000 in
set_option maxRecDepth 100000 in
theorem impl_ReadFixed.calls (k : Nat) (A0 : Option Addr) (c0 : Nat) (l0 : List Int) (a1 : Int) (a2 : Int) (r1 : Int) (r2 : Bool) (w : World) (hr0 : Kd.C (Kd.int .u8) w A0 l0.length l0) (hc0 : l0.length ≤ c0) (h : impl_ReadFixed.f k l0 a1 a2 = some (r1, r2)) :
  Calls Try.prog 88 #[.slice A0 l0.length c0, .int .i64 a1, .int .i64 a2] w fun e w' => e = .returned (.tuple #[.int .i64 r1, .bool r2]) ∧ Drawn0 w w' := by
 have HR0 := Aside0.mk hr0
 have HC0 := Aside0.mk hc0
 clear hr0 hc0
 have H : ((impl_within.f a2 1 8).bind fun t315 => (if t315 = true then ((impl_within.f a1 0 (wrap64 ((l0.length : Int) - a2))).bind fun t316 => (impl_ReadFixed.j0 k l0 a1 a2 (!t316))) else (impl_ReadFixed.j0 k l0 a1 a2 true))) = some (r1, r2) := h
 clear h
 have HC4 := Aside0.mk H
 clear H
 go_enter Try.func88, Try.ntmps88
 go_upto_region 1 with (fail)
 go_cut [22] (fun v22 wc => ∃ (kq : Nat) (x22_3 : Bool), v22 = .bool x22_3 ∧ Aside0 (impl_ReadFixed.j0 kq l0 a1 a2 x22_3 = some (r1, r2)) ∧ Aside0 (kq ≤ k) ∧ Drawn0 w wc)
 case first =>
  have H := HC4.out; clear HC4; replace H := Option.bind_eq_some_iff.mp H; obtain ⟨t315, A50, H⟩ := H; replace H : (if t315 = true then ((impl_within.f a1 0 (wrap64 ((l0.length : Int) - a2))).bind fun t316 => (impl_ReadFixed.j0 k l0 a1 a2 (!t316))) else (impl_ReadFixed.j0 k l0 a1 a2 true)) = some (r1, r2) := H; have A5 := Aside0.mk A50; clear A50
  by_cases c6 : t315 = true
  ·subst c6
   have H1 : ((impl_within.f a1 0 (wrap64 ((l0.length : Int) - a2))).bind fun t316 => (impl_ReadFixed.j0 k l0 a1 a2 (!t316))) = some (r1, r2) := by rw [if_pos rfl] at H; exact H
   clear H; have H := H1; clear H1; replace H := Option.bind_eq_some_iff.mp H; obtain ⟨t316, A70, H⟩ := H; replace H : (impl_ReadFixed.j0 k l0 a1 a2 (!t316)) = some (r1, r2) := H; have A7 := Aside0.mk A70; clear A70; have H' := Aside0.mk H; clear H
   go_wp2_with (first | ((with_reducible refine gate_callee (f := 25) rfl ?_); refine gL (some 12) Try.func25 #[.int .i64 a2, .int .i64 1, .int .i64 8] ?_; (with_reducible refine (impl_within.calls a2 1 8 true _ A5.out).mono ?_); rintro e w' ⟨rfl, ⟨nd, rfl⟩⟩; refine ⟨_, rfl, ?_⟩) | (go_at_call 25; (with_reducible refine (impl_within.calls a1 0 (wrap64 ((l0.length : Int) - a2)) t316 _ A7.out).mono ?_); rintro e w' ⟨rfl, ⟨nd, rfl⟩⟩))
   go_meet
   case rel => exact ⟨_, (!t316), sE, H', ⟨by first | omega | exact Nat.le_refl _⟩, dR⟩
  ·replace c6 := Bool.eq_false_iff.mpr c6
   subst c6
   have H1 : (impl_ReadFixed.j0 k l0 a1 a2 true) = some (r1, r2) := by rw [if_neg (show ¬ (false = true) by decide)] at H; exact H
   clear H; have H := H1; clear H1; have H' := Aside0.mk H; clear H
   go_wp2_with (first | ((with_reducible refine gate_callee (f := 25) rfl ?_); refine gL (some 12) Try.func25 #[.int .i64 a2, .int .i64 1, .int .i64 8] ?_; (with_reducible refine (impl_within.calls a2 1 8 false _ A5.out).mono ?_); rintro e w' ⟨rfl, ⟨nd, rfl⟩⟩; refine ⟨_, rfl, ?_⟩))
   go_meet
   case rel => exact ⟨_, (true), sE, H', ⟨by first | omega | exact Nat.le_refl _⟩, dR⟩
 case rest =>
  clear HC4
  try clear c2
  try clear p2
  try clear c6
  try clear p6
  obtain ⟨kq, x22_3, rfl, HA, HJ3, ⟨mc3, rfl⟩⟩ := hcut
  cases kq with
  | zero => exact absurd HA.out (by simp [impl_ReadFixed.j0])
  | succ kj3 =>
   have H := HA.out; clear HA; simp only [impl_ReadFixed.j0] at H
   by_cases c8 : x22_3 = true
   ·subst c8
    have H1 : (some (0, false)) = some (r1, r2) := by rw [if_pos rfl] at H; exact H
    clear H; have H := H1; clear H1; simp only [Option.some.injEq, Prod.mk.injEq] at H; obtain ⟨rfl, rfl⟩ := H
    go_wp2
    go_ret2
    exact ⟨sE, dR⟩
   ·replace c8 := Bool.eq_false_iff.mpr c8
    subst c8
    have H1 : (if 0 ≤ a1 then (if a1 ≤ (wrap64 (a1 + a2)) then (if (wrap64 (a1 + a2)) ≤ (l0.length : Int) then (impl_ReadFixed.l0 kj3 0 ((l0.take ((wrap64 (a1 + a2)) : Int).toNat).drop (a1 : Int).toNat) (((l0.take ((wrap64 (a1 + a2)) : Int).toNat).drop (a1 : Int).toNat).length : Int) 0) else (none)) else (none)) else (none)) = some (r1, r2) := by rw [if_neg (show ¬ (false = true) by decide)] at H; exact H
    clear H; have H := H1; clear H1
    by_cases c9 : 0 ≤ a1
    ·rw [if_pos c9] at H
     have c9b0 := eq_true c9; have c9b1 : decide (0 ≤ a1) = true := decide_eq_true c9; clear c9
     by_cases c10 : a1 ≤ (wrap64 (a1 + a2))
     ·rw [if_pos c10] at H
      have c10b0 := eq_true c10; have c10b1 : decide (a1 ≤ (wrap64 (a1 + a2))) = true := decide_eq_true c10
      by_cases c11 : (wrap64 (a1 + a2)) ≤ (l0.length : Int)
      ·rw [if_pos c11] at H
       have c11b0 := eq_true c11; have c11b1 : decide ((wrap64 (a1 + a2)) ≤ (l0.length : Int)) = true := decide_eq_true c11; have H' := Aside0.mk H; clear H; obtain ⟨i012, hi012, _, hsz12, _⟩ := info_parts info5; obtain ⟨A12, hcut12, hA12, hC12⟩ := print_mid_of (P := Try.prog) (Value.int .u8) 0 24 5 .i64 .i64 Try.underlying24 hi012 hsz12 A0 c0 l0 a1 (wrap64 (a1 + a2)) (oD) (by first | omega | exact oD) (oD) HC0.out; have HR317 := mK (Kd.C_of_reads (h1 := fun _ => rfl) (hA12 _ (Kd.reads_of_C HR0.out))); have HC317 := Aside0.mk hC12; clear hA12 hC12 hi012 hsz12; have hSL317 := mK (show ((l0.take ((wrap64 (a1 + a2)) : Int).toNat).drop (a1 : Int).toNat).length = ((wrap64 (a1 + a2)).toNat - a1.toNat) from (by rw [List.length_drop, List.length_take]; have h_ : ((wrap64 (a1 + a2)) : Int) ≤ (l0.length : Int) := oD; omega))
       go_wp2
       go_loopg [8, 30] kj3 (fun kq v8 v30 w' => ∃ (x8_2 : Int) (x30_2 : Int), v8 = .int .u64 x8_2 ∧ v30 = .int .i64 x30_2 ∧ Aside0 (impl_ReadFixed.l0 kq x8_2 ((l0.take ((wrap64 (a1 + a2)) : Int).toNat).drop (a1 : Int).toNat) (((l0.take ((wrap64 (a1 + a2)) : Int).toNat).drop (a1 : Int).toNat).length : Int) x30_2 = some (r1, r2)) ∧ Aside0 (kq ≤ kj3) ∧ Drawn0 w w')
       case atStart => exact ⟨(0), (0), sE, sE, H', ⟨Nat.le_refl _⟩, dR⟩
       case round =>
        clear H'
        try clear c1
        try clear c2
        try clear p2
        try clear c3
        try clear c6
        try clear p6
        try clear c8
        try clear c9
        try clear c9b0
        try clear c9b1
        try clear c10
        try clear c10b0
        try clear c10b1
        try clear c11
        try clear c11b0
        try clear c11b1
        try clear p2
        try clear p6
        obtain ⟨x8_2, x30_2, rfl, rfl, HA, HK2, ⟨m2, rfl⟩⟩ := hrel
        cases gk with
        | zero => exact absurd HA.out (by simp [impl_ReadFixed.l0])
        | succ k2 =>
         have H := HA.out; clear HA; simp only [impl_ReadFixed.l0] at H
         by_cases c13 : x30_2 < (((l0.take ((wrap64 (a1 + a2)) : Int).toNat).drop (a1 : Int).toNat).length : Int)
         ·rw [if_pos c13] at H
          have c13b0 : decide (x30_2 < (((l0.take ((wrap64 (a1 + a2)) : Int).toNat).drop (a1 : Int).toNat).length : Int)) = true := decide_eq_true c13
          have c13bs0 : decide (x30_2 < ((((wrap64 (a1 + a2)).toNat - a1.toNat) : Nat) : Int)) = true := by have z_ := c13b0; rw [hSL317.out] at z_; exact z_
          have c13bt0 : (x30_2 < ((((wrap64 (a1 + a2)).toNat - a1.toNat) : Nat) : Int)) = True := eq_true (of_decide_eq_true c13bs0); clear c13
          by_cases c14 : 0 ≤ x30_2
          ·rw [if_pos c14] at H
           have c14b0 : decide (0 ≤ x30_2) = true := decide_eq_true c14; clear c14
           by_cases c15 : x30_2 < (((l0.take ((wrap64 (a1 + a2)) : Int).toNat).drop (a1 : Int).toNat).length : Int)
           ·rw [if_pos c15] at H
            have c15b0 : decide (x30_2 < (((l0.take ((wrap64 (a1 + a2)) : Int).toNat).drop (a1 : Int).toNat).length : Int)) = true := decide_eq_true c15
            have c15bs0 : decide (x30_2 < ((((wrap64 (a1 + a2)).toNat - a1.toNat) : Nat) : Int)) = true := by have z_ := c15b0; rw [hSL317.out] at z_; exact z_
            have c15bt0 : (x30_2 < ((((wrap64 (a1 + a2)).toNat - a1.toNat) : Nat) : Int)) = True := eq_true (of_decide_eq_true c15bs0); clear c15; have H' := Aside0.mk H; clear H; have p318 : 0 ≤ (x30_2 : Int) := oD; have q318 : x30_2 < (((l0.take ((wrap64 (a1 + a2)) : Int).toNat).drop (a1 : Int).toNat).length : Int) := oD; obtain ⟨ad318, e318, hx318_0⟩ := Kd.at_int HR317.out x30_2 p318 q318
            cases e318
            replace p318 := eq_true p318; replace q318 := eq_true q318
            go_wp2
            go_roundg k2
            case measure => have := HJ3.out; have := HK2.out; omega
            case rel => exact ⟨(Go.bits .or .u64 (IntKind.u64.wrap (x8_2 * 256)) (IntKind.u64.wrap (rd ((l0.take ((wrap64 (a1 + a2)) : Int).toNat).drop (a1 : Int).toNat) x30_2))), (wrap64 (x30_2 + 1)), sE, sE, H', ⟨by have := HJ3.out; have := HK2.out; omega⟩, dR⟩
           ·rw [if_neg c15] at H; exact absurd H (by simp)
          ·rw [if_neg c14] at H; exact absurd H (by simp)
         ·rw [if_neg c13] at H
          have c13b0 : decide (x30_2 < (((l0.take ((wrap64 (a1 + a2)) : Int).toNat).drop (a1 : Int).toNat).length : Int)) = false := decide_eq_false c13
          have c13bs0 : decide (x30_2 < ((((wrap64 (a1 + a2)).toNat - a1.toNat) : Nat) : Int)) = false := by have z_ := c13b0; rw [hSL317.out] at z_; exact z_
          have c13bt0 : (x30_2 < ((((wrap64 (a1 + a2)).toNat - a1.toNat) : Nat) : Int)) = False := eq_false (of_decide_eq_false c13bs0); clear c13
          by_cases c16 : (x8_2 / 9223372036854775808) = 0
          ·rw [if_pos c16] at H
           have c16b0 : ((x8_2 / 9223372036854775808) == 0) = true := beq_iff_eq.mpr c16; have c16b1 : ((x8_2 / 9223372036854775808) != 0) = false := bne_eq_false_iff_eq.mpr c16; clear c16; simp only [Option.some.injEq, Prod.mk.injEq] at H; obtain ⟨rfl, rfl⟩ := H
           go_wp2
           go_ret2
           exact ⟨sE, dR⟩
          ·rw [if_neg c16] at H
           have c16b0 : ((x8_2 / 9223372036854775808) == 0) = false := beq_eq_false_iff_ne.mpr c16; have c16b1 : ((x8_2 / 9223372036854775808) != 0) = true := bne_iff_ne.mpr c16; simp only [Option.some.injEq, Prod.mk.injEq] at H; obtain ⟨rfl, rfl⟩ := H
           go_wp2
           go_ret2
           exact ⟨sE, dR⟩
      ·rw [if_neg c11] at H; exact absurd H (by simp)
     ·rw [if_neg c10] at H; exact absurd H (by simp)
    ·rw [if_neg c9] at H; exact absurd H (by simp)
/-! ### impl_places: function 61 -/
def impl_places.f (k : Nat) (l0 : List Int) : Option (Int × Int × Int) := (impl_ReadFixed.f k l0 (wrap64 ((l0.length : Int) - 20)) 4).bind fun bt319 => ((impl_ReadFixed.f k l0 (wrap64 ((wrap64 ((l0.length : Int) - 20)) + 4)) 4).bind fun bt321 => ((impl_ReadFixed.f k l0 (wrap64 ((wrap64 ((l0.length : Int) - 20)) + 8)) 4).bind fun bt323 => (some (bt319.1, bt321.1, bt323.1))))
set_option maxHeartbeats 8000000 in
set_option maxRecDepth 100000 in
theorem impl_places.calls (k : Nat) (A0 : Option Addr) (c0 : Nat) (l0 : List Int) (r1 : Int) (r2 : Int) (r3 : Int) (w : World) (hr0 : Kd.C (Kd.int .u8) w A0 l0.length l0) (hc0 : l0.length ≤ c0) (h : impl_places.f k l0 = some (r1, r2, r3)) :
  Calls Try.prog 61 #[.slice A0 l0.length c0] w fun e w' => e = .returned (.tuple #[.int .i64 r1, .int .i64 r2, .int .i64 r3]) ∧ Drawn0 w w' := by
 have HR0 := Aside0.mk hr0
 have HC0 := Aside0.mk hc0
 clear hr0 hc0
 have H : ((impl_ReadFixed.f k l0 (wrap64 ((l0.length : Int) - 20)) 4).bind fun bt319 => ((impl_ReadFixed.f k l0 (wrap64 ((wrap64 ((l0.length : Int) - 20)) + 4)) 4).bind fun bt321 => ((impl_ReadFixed.f k l0 (wrap64 ((wrap64 ((l0.length : Int) - 20)) + 8)) 4).bind fun bt323 => (some (bt319.1, bt321.1, bt323.1))))) = some (r1, r2, r3) := h
 clear h
 replace H := Option.bind_eq_some_iff.mp H
 obtain ⟨⟨t319, t320⟩, A20, H⟩ := H
 replace H : ((impl_ReadFixed.f k l0 (wrap64 ((wrap64 ((l0.length : Int) - 20)) + 4)) 4).bind fun bt321 => ((impl_ReadFixed.f k l0 (wrap64 ((wrap64 ((l0.length : Int) - 20)) + 8)) 4).bind fun bt323 => (some (t319, bt321.1, bt323.1)))) = some (r1, r2, r3) := H
 have A2 := Aside0.mk A20
 clear A20
 replace H := Option.bind_eq_some_iff.mp H
 obtain ⟨⟨t321, t322⟩, A30, H⟩ := H
 replace H : ((impl_ReadFixed.f k l0 (wrap64 ((wrap64 ((l0.length : Int) - 20)) + 8)) 4).bind fun bt323 => (some (t319, t321, bt323.1))) = some (r1, r2, r3) := H
 have A3 := Aside0.mk A30
 clear A30
 replace H := Option.bind_eq_some_iff.mp H
 obtain ⟨⟨t323, t324⟩, A40, H⟩ := H
 replace H : (some (t319, t321, t323)) = some (r1, r2, r3) := H
 have A4 := Aside0.mk A40
 clear A40
 simp only [Option.some.injEq, Prod.mk.injEq] at H
 obtain ⟨rfl, rfl, rfl⟩ := H
 go_enter Try.func61, Try.ntmps61
 go_wp2_with (first | ((with_reducible refine gate_callee (f := 88) rfl ?_); refine gL (some 18) Try.func88 #[.slice A0 l0.length c0, .int .i64 (wrap64 ((l0.length : Int) - 20)), .int .i64 4] ?_; (with_reducible refine (impl_ReadFixed.calls k _ _ l0 (wrap64 ((l0.length : Int) - 20)) 4 t319 t320 _ ?side1 ?side2 A2.out).mono ?_); (case side1 => exact cK HR0.out); (case side2 => exact HC0.out); rintro e w' ⟨rfl, ⟨nd, rfl⟩⟩; refine ⟨_, rfl, ?_⟩) | ((with_reducible refine gate_callee (f := 88) rfl ?_); refine gL (some 25) Try.func88 #[.slice A0 l0.length c0, .int .i64 (wrap64 ((wrap64 ((l0.length : Int) - 20)) + 4)), .int .i64 4] ?_; (with_reducible refine (impl_ReadFixed.calls k _ _ l0 (wrap64 ((wrap64 ((l0.length : Int) - 20)) + 4)) 4 t321 t322 _ ?side1 ?side2 A3.out).mono ?_); (case side1 => exact cK HR0.out); (case side2 => exact HC0.out); rintro e w' ⟨rfl, ⟨nd, rfl⟩⟩; refine ⟨_, rfl, ?_⟩) | ((with_reducible refine gate_callee (f := 88) rfl ?_); refine gL (some 32) Try.func88 #[.slice A0 l0.length c0, .int .i64 (wrap64 ((wrap64 ((l0.length : Int) - 20)) + 8)), .int .i64 4] ?_; (with_reducible refine (impl_ReadFixed.calls k _ _ l0 (wrap64 ((wrap64 ((l0.length : Int) - 20)) + 8)) 4 t323 t324 _ ?side1 ?side2 A4.out).mono ?_); (case side1 => exact cK HR0.out); (case side2 => exact HC0.out); rintro e w' ⟨rfl, ⟨nd, rfl⟩⟩; refine ⟨_, rfl, ?_⟩))
 go_ret3
 exact ⟨sE, dR⟩
/-! ### impl_ReadVar: function 112 -/
def impl_ReadVar.l0 : Nat → List Int → Int → Int → Int → Option (Int × Int × Bool)
 | 0, _, _, _, _ => none
 | k + 1, x0, x1, x7, x8 => if x8 < (mn (x0.length : Int) (wrap64 (x1 + 10))) then (if 0 ≤ x8 then (if x8 < (x0.length : Int) then (if 0 ≤ (wrap64 (7 * (wrap64 (x8 - x1)))) then (if (rd x0 x8) < 128 then ((impl_PutVar.f k (Go.bits .or .u64 x7 (shl .u64 (IntKind.u64.wrap (Go.bits .and .u8 (rd x0 x8) 127)) (wrap64 (7 * (wrap64 (x8 - x1))))))).bind fun t328 => (if 0 ≤ x1 then (if x1 ≤ (wrap64 (x8 + 1)) then (if (wrap64 (x8 + 1)) ≤ (x0.length : Int) then ((bytes_Equal.f t328 ((x0.take ((wrap64 (x8 + 1)) : Int).toNat).drop (x1 : Int).toNat)).bind fun t332 => (if t332 = true then (some (Go.bits .or .u64 x7 (shl .u64 (IntKind.u64.wrap (Go.bits .and .u8 (rd x0 x8) 127)) (wrap64 (7 * (wrap64 (x8 - x1))))), wrap64 (x8 + 1), true)) else (some (0, 0, false)))) else (none)) else (none)) else (none))) else (impl_ReadVar.l0 k x0 x1 (Go.bits .or .u64 x7 (shl .u64 (IntKind.u64.wrap (Go.bits .and .u8 (rd x0 x8) 127)) (wrap64 (7 * (wrap64 (x8 - x1)))))) (wrap64 (x8 + 1)))) else (none)) else (none)) else (none)) else (some (0, 0, false))
def impl_ReadVar.f (k : Nat) (l0 : List Int) (a1 : Int) : Option (Int × Int × Bool) := (impl_within.f a1 0 (l0.length : Int)).bind fun t325 => (if t325 = true then (impl_ReadVar.l0 k l0 a1 0 a1) else (some (0, 0, false)))
set_option maxHeartbeats 8000000 in
set_option maxRecDepth 100000 in
theorem impl_ReadVar.calls (k : Nat) (A0 : Option Addr) (c0 : Nat) (l0 : List Int) (a1 : Int) (r1 : Int) (r2 : Int) (r3 : Bool) (w : World) (hr0 : Kd.C (Kd.int .u8) w A0 l0.length l0) (hc0 : l0.length ≤ c0) (h : impl_ReadVar.f k l0 a1 = some (r1, r2, r3)) :
  Calls Try.prog 112 #[.slice A0 l0.length c0, .int .i64 a1] w fun e w' => e = .returned (.tuple #[.int .u64 r1, .int .i64 r2, .bool r3]) ∧ Below w.heap.size w w' := by
 have HR0 := Aside0.mk hr0
 have HC0 := Aside0.mk hc0
 clear hr0 hc0
 have HB := mK (Below.refl w.heap.size w)
 have H : ((impl_within.f a1 0 (l0.length : Int)).bind fun t325 => (if t325 = true then (impl_ReadVar.l0 k l0 a1 0 a1) else (some (0, 0, false)))) = some (r1, r2, r3) := h
 clear h
 replace H := Option.bind_eq_some_iff.mp H
 obtain ⟨t325, A30, H⟩ := H
 replace H : (if t325 = true then (impl_ReadVar.l0 k l0 a1 0 a1) else (some (0, 0, false))) = some (r1, r2, r3) := H
 have A3 := Aside0.mk A30
 clear A30
 by_cases c4 : t325 = true
 ·subst c4
  have H1 : (impl_ReadVar.l0 k l0 a1 0 a1) = some (r1, r2, r3) := by rw [if_pos rfl] at H; exact H
  clear H; have H := H1; clear H1; have H' := Aside0.mk H; clear H
  go_enter Try.func112, Try.ntmps112
  go_wp2_with (first | ((with_reducible refine gate_callee (f := 25) rfl ?_); refine gL (some 12) Try.func25 #[.int .i64 a1, .int .i64 0, .int .i64 (l0.length : Int)] ?_; (with_reducible refine (impl_within.calls a1 0 (l0.length : Int) true _ A3.out).mono ?_); rintro e w' ⟨rfl, ⟨nd, rfl⟩⟩; refine ⟨_, rfl, ?_⟩))
  go_loopg [7, 8] k (fun kq v7 v8 w' => ∃ (x7_1 : Int) (x8_1 : Int), v7 = .int .u64 x7_1 ∧ v8 = .int .i64 x8_1 ∧ Aside0 (impl_ReadVar.l0 kq l0 a1 x7_1 x8_1 = some (r1, r2, r3)) ∧ Aside0 (kq ≤ k) ∧ Aside0 (Below w.heap.size w w'))
  case atStart => exact ⟨(0), (a1), sE, sE, H', ⟨Nat.le_refl _⟩, ⟨bL HB.out⟩⟩
  case round =>
   clear H'
   try clear c1
   try clear c2
   try clear p2
   try clear c4
   obtain ⟨x7_1, x8_1, rfl, rfl, HA, HK1, HB⟩ := hrel
   cases gk with
   | zero => exact absurd HA.out (by simp [impl_ReadVar.l0])
   | succ k1 =>
    have H := HA.out; clear HA; simp only [impl_ReadVar.l0] at H; obtain ⟨ji5, hji5⟩ : ∃ j_ : Int, (mn (l0.length : Int) (wrap64 (a1 + 10))) = j_ := ⟨_, rfl⟩
    replace H : (if x8_1 < (ji5) then (if 0 ≤ x8_1 then (if x8_1 < (l0.length : Int) then (if 0 ≤ (wrap64 (7 * (wrap64 (x8_1 - a1)))) then (if (rd l0 x8_1) < 128 then ((impl_PutVar.f k1 (Go.bits .or .u64 x7_1 (shl .u64 (IntKind.u64.wrap (Go.bits .and .u8 (rd l0 x8_1) 127)) (wrap64 (7 * (wrap64 (x8_1 - a1))))))).bind fun t328 => (if 0 ≤ a1 then (if a1 ≤ (wrap64 (x8_1 + 1)) then (if (wrap64 (x8_1 + 1)) ≤ (l0.length : Int) then ((bytes_Equal.f t328 ((l0.take ((wrap64 (x8_1 + 1)) : Int).toNat).drop (a1 : Int).toNat)).bind fun t332 => (if t332 = true then (some (Go.bits .or .u64 x7_1 (shl .u64 (IntKind.u64.wrap (Go.bits .and .u8 (rd l0 x8_1) 127)) (wrap64 (7 * (wrap64 (x8_1 - a1))))), wrap64 (x8_1 + 1), true)) else (some (0, 0, false)))) else (none)) else (none)) else (none))) else (impl_ReadVar.l0 k1 l0 a1 (Go.bits .or .u64 x7_1 (shl .u64 (IntKind.u64.wrap (Go.bits .and .u8 (rd l0 x8_1) 127)) (wrap64 (7 * (wrap64 (x8_1 - a1)))))) (wrap64 (x8_1 + 1)))) else (none)) else (none)) else (none)) else (some (0, 0, false))) = some (r1, r2, r3) := by first | (rw [hji5] at H; exact H) | (simp only [hji5] at H ⊢; exact H)
    have hji5_ : (if (wrap64 (a1 + 10)) < (l0.length : Int) then (wrap64 (a1 + 10)) else (l0.length : Int)) = ji5 := hji5
    by_cases c6 : x8_1 < (ji5)
    ·rw [if_pos c6] at H
     have c6b0 : decide (x8_1 < (ji5)) = true := decide_eq_true c6; clear c6
     by_cases c7 : 0 ≤ x8_1
     ·rw [if_pos c7] at H
      have c7b0 : decide (0 ≤ x8_1) = true := decide_eq_true c7; clear c7
      by_cases c8 : x8_1 < (l0.length : Int)
      ·rw [if_pos c8] at H
       have c8b0 : decide (x8_1 < (l0.length : Int)) = true := decide_eq_true c8; clear c8; obtain ⟨ji9, hji9⟩ : ∃ j_ : Int, (wrap64 (7 * (wrap64 (x8_1 - a1)))) = j_ := ⟨_, rfl⟩
       replace H : (if 0 ≤ (ji9) then (if (rd l0 x8_1) < 128 then ((impl_PutVar.f k1 (Go.bits .or .u64 x7_1 (shl .u64 (IntKind.u64.wrap (Go.bits .and .u8 (rd l0 x8_1) 127)) (ji9)))).bind fun t328 => (if 0 ≤ a1 then (if a1 ≤ (wrap64 (x8_1 + 1)) then (if (wrap64 (x8_1 + 1)) ≤ (l0.length : Int) then ((bytes_Equal.f t328 ((l0.take ((wrap64 (x8_1 + 1)) : Int).toNat).drop (a1 : Int).toNat)).bind fun t332 => (if t332 = true then (some (Go.bits .or .u64 x7_1 (shl .u64 (IntKind.u64.wrap (Go.bits .and .u8 (rd l0 x8_1) 127)) (ji9)), wrap64 (x8_1 + 1), true)) else (some (0, 0, false)))) else (none)) else (none)) else (none))) else (impl_ReadVar.l0 k1 l0 a1 (Go.bits .or .u64 x7_1 (shl .u64 (IntKind.u64.wrap (Go.bits .and .u8 (rd l0 x8_1) 127)) (ji9))) (wrap64 (x8_1 + 1)))) else (none)) = some (r1, r2, r3) := by first | (rw [hji9] at H; exact H) | (simp only [hji9] at H ⊢; exact H)
       have hji9w : (IntKind.i64.wrap (7 * (wrap64 (x8_1 - a1)))) = ji9 := (i64_w _).trans hji9
       by_cases c10 : 0 ≤ (ji9)
       ·rw [if_pos c10] at H
        have c10b0 := eq_true c10; have c10b1 : decide (0 ≤ (ji9)) = true := decide_eq_true c10; clear c10; obtain ⟨ji11, hji11⟩ : ∃ j_ : Int, (shl .u64 (IntKind.u64.wrap (Go.bits .and .u8 (rd l0 x8_1) 127)) (ji9)) = j_ := ⟨_, rfl⟩
        replace H : (if (rd l0 x8_1) < 128 then ((impl_PutVar.f k1 (Go.bits .or .u64 x7_1 (ji11))).bind fun t328 => (if 0 ≤ a1 then (if a1 ≤ (wrap64 (x8_1 + 1)) then (if (wrap64 (x8_1 + 1)) ≤ (l0.length : Int) then ((bytes_Equal.f t328 ((l0.take ((wrap64 (x8_1 + 1)) : Int).toNat).drop (a1 : Int).toNat)).bind fun t332 => (if t332 = true then (some (Go.bits .or .u64 x7_1 (ji11), wrap64 (x8_1 + 1), true)) else (some (0, 0, false)))) else (none)) else (none)) else (none))) else (impl_ReadVar.l0 k1 l0 a1 (Go.bits .or .u64 x7_1 (ji11)) (wrap64 (x8_1 + 1)))) = some (r1, r2, r3) := by first | (rw [hji11] at H; exact H) | (simp only [hji11] at H ⊢; exact H)
        have hji11_ : (IntKind.u64.wrap ((IntKind.u64.wrap (Go.bits .and .u8 (rd l0 x8_1) 127)) * 2 ^ min (ji9).toNat 64)) = ji11 := hji11; have hji11z : (ji9) ≤ 64 → (IntKind.u64.wrap ((IntKind.u64.wrap (Go.bits .and .u8 (rd l0 x8_1) 127)) * 2 ^ (ji9).toNat)) = ji11 := shl_small hji11
        by_cases c12 : (rd l0 x8_1) < 128
        ·rw [if_pos c12] at H
         have c12b0 : decide ((rd l0 x8_1) < 128) = true := decide_eq_true c12; clear c12; replace H := Option.bind_eq_some_iff.mp H; obtain ⟨t328, A130, H⟩ := H; replace H : (if 0 ≤ a1 then (if a1 ≤ (wrap64 (x8_1 + 1)) then (if (wrap64 (x8_1 + 1)) ≤ (l0.length : Int) then ((bytes_Equal.f t328 ((l0.take ((wrap64 (x8_1 + 1)) : Int).toNat).drop (a1 : Int).toNat)).bind fun t332 => (if t332 = true then (some (Go.bits .or .u64 x7_1 (ji11), wrap64 (x8_1 + 1), true)) else (some (0, 0, false)))) else (none)) else (none)) else (none)) = some (r1, r2, r3) := H; have A13 := Aside0.mk A130; clear A130
         by_cases c14 : 0 ≤ a1
         ·rw [if_pos c14] at H
          have c14b0 := eq_true c14; have c14b1 : decide (0 ≤ a1) = true := decide_eq_true c14; clear c14
          by_cases c15 : a1 ≤ (wrap64 (x8_1 + 1))
          ·rw [if_pos c15] at H
           have c15b0 := eq_true c15; have c15b1 : decide (a1 ≤ (wrap64 (x8_1 + 1))) = true := decide_eq_true c15
           by_cases c16 : (wrap64 (x8_1 + 1)) ≤ (l0.length : Int)
           ·rw [if_pos c16] at H
            have c16b0 := eq_true c16; have c16b1 : decide ((wrap64 (x8_1 + 1)) ≤ (l0.length : Int)) = true := decide_eq_true c16; replace H := Option.bind_eq_some_iff.mp H; obtain ⟨t332, A170, H⟩ := H; replace H : (if t332 = true then (some (Go.bits .or .u64 x7_1 (ji11), wrap64 (x8_1 + 1), true)) else (some (0, 0, false))) = some (r1, r2, r3) := H; have A17 := Aside0.mk A170; clear A170
            by_cases c18 : t332 = true
            ·subst c18
             have H1 : (some (Go.bits .or .u64 x7_1 (ji11), wrap64 (x8_1 + 1), true)) = some (r1, r2, r3) := by rw [if_pos rfl] at H; exact H
             clear H; have H := H1; clear H1; simp only [Option.some.injEq, Prod.mk.injEq] at H; obtain ⟨rfl, rfl, rfl⟩ := H; have p326 : 0 ≤ (x8_1 : Int) := oD; have q326 : x8_1 < (l0.length : Int) := oD; obtain ⟨ad326, e326, hx326_0⟩ := Kd.at_int HR0.out x8_1 p326 q326
             cases e326
             try (replace hx326_0 := (HB.out.cell (World.block_lt_of_cell? w _ hx326_0)).trans hx326_0)
             replace p326 := eq_true p326; replace q326 := eq_true q326; have p327 : 0 ≤ (x8_1 : Int) := oD; have q327 : x8_1 < (l0.length : Int) := oD; obtain ⟨ad327, e327, hx327_0⟩ := Kd.at_int HR0.out x8_1 p327 q327; obtain rfl : ad326 = ad327 := (by injection e327)
             try (replace hx327_0 := (HB.out.cell (World.block_lt_of_cell? w _ hx327_0)).trans hx327_0)
             replace p327 := eq_true p327; replace q327 := eq_true q327
             try go_wp2
             have n0_ := mK (below_drew1 HB.out); clear HB; have HB := n0_; clear n0_; obtain ⟨i020, hi020, _, hsz20, _⟩ := info_parts info5; obtain ⟨A20, hcut20, hA20, hC20⟩ := print_mid_of (P := Try.prog) (Value.int .u8) 0 24 5 .i64 .i64 Try.underlying24 hi020 hsz20 (some ad326) c0 l0 a1 (wrap64 (x8_1 + 1)) (oD) (by first | omega | exact oD) (oD) HC0.out; have HR331 := mK (Kd.C_of_reads (h1 := fun _ => rfl) (hA20 _ (Kd.reads_of_C HR0.out))); have HC331 := Aside0.mk hC20; clear hA20 hC20 hi020 hsz20; have hSL331 := mK (show ((l0.take ((wrap64 (x8_1 + 1)) : Int).toNat).drop (a1 : Int).toNat).length = ((wrap64 (x8_1 + 1)).toNat - a1.toNat) from (by rw [List.length_drop, List.length_take]; have h_ : ((wrap64 (x8_1 + 1)) : Int) ≤ (l0.length : Int) := oD; omega))
             refine start_ (n := 9) (S := fun w' => True) (ds := []) #[false, false, false, false, false, false, false, false, false] (by kernel_rfl) rfl rfl trivial (fun hHeld => ?_)
             generalize wr.drew = w19 at HB HR331 hHeld ⊢; refine pu_ 0 42 ?_
             refine pu_ 2 44 ?_
             refine pu_ 3 45 ?_
             refine pu_ 4 46 ?_
             refine pu_ 5 47 ?_
             refine pu_ 6 48 ?_
             refine on_ 1 43 (fun K hK => ?_); refine goes_ Try.func50 (by kernel_rfl) rfl #[.int .u64 (Go.bits .or .u64 x7_1 (ji11))] (by rfl) rfl rfl (by (try simp only [List.map_toArray, List.map_cons, List.map_nil]); first | done | (simp only [hji11]; rfl) | rfl | (simp only [List.length_drop, List.length_take]; rfl)) ?_; (with_reducible refine (impl_PutVar.calls k1 (Go.bits .or .u64 x7_1 (ji11)) t328 _ A13.out).mono ?_); rintro e w21 ⟨v329, rfl, ho0, hb⟩; refine ⟨_, rfl, ?_⟩; have _ := mK (Kd.R_lower ho0 (below_size (bL HB.out))); have _ := mK (below_step (bL HB.out) hb); clear HB; rename_i HO330 HB; (try clear hb); (try clear hb2); (try clear hk); (try clear hi); (try clear ho0); obtain ⟨Ao22, co22, eo22⟩ := Kd.R_slice HO330.out; (first | subst eo22 | (injection eo22 with f1_ f2_ f3_; have f4_ := f1_.symm; have f5_ := f3_.symm; clear f1_ f2_ f3_; subst f4_; subst f5_)); refine hK.out _ _ trivial (fun hHeld => ?_); clear hK K; refine norm_ (a' := ?_) ?_ ?_; rotate_left
             ·show Act.put _ (some 43) _ = _
              simp only [Act.put, sq_a, sq_b, sq_c, i64_w, i32_w]; rfl
             refine on_ 7 49 (fun K hK => ?_); refine goes_ Try.func60 (by kernel_rfl) rfl #[.slice Ao22 t328.length co22, .slice A20 ((l0.take ((wrap64 (x8_1 + 1)) : Int).toNat).drop (a1 : Int).toNat).length (c0 - a1.toNat)] (by rfl) rfl rfl (by (try simp only [List.map_toArray, List.map_cons, List.map_nil]); first | done | (rw [show ((l0.take ((wrap64 (x8_1 + 1)) : Int).toNat).drop (a1 : Int).toNat).length = ((wrap64 (x8_1 + 1)).toNat - a1.toNat) from (by rw [List.length_drop, List.length_take]; have h_ : ((wrap64 (x8_1 + 1)) : Int) ≤ (l0.length : Int) := oD; omega)] <;> rfl) | rfl | (simp only [List.length_drop, List.length_take]; rfl)) ?_; (with_reducible refine (bytes_Equal.calls _ _ t328 _ _ ((l0.take ((wrap64 (x8_1 + 1)) : Int).toNat).drop (a1 : Int).toNat) true _ ?side1 ?side2 ?side3 ?side4 A17.out).mono ?_); (case side1 => exact cK (Kd.R_reads' HO330.out).2.2); (case side2 => exact (Kd.R_reads' HO330.out).2.1); (case side3 => exact cK (Kd.C_below HR331.out HB.out)); (case side4 => exact HC331.out); rintro e w' ⟨rfl, ⟨nd, rfl⟩⟩; refine ⟨_, rfl, ?_⟩; refine hK.out _ _ trivial (fun hHeld => ?_); clear hK K; refine norm_ (a' := ?_) ?_ ?_; rotate_left
             ·show Act.put _ (some 49) _ = _
              simp only [Act.put, sq_a, sq_b, sq_c, i64_w, i32_w]; rfl
             refine pu_ 8 50 ?_
             refine done_ (by kernel_rfl) ?_
             try go_wp2
             go_ret3
             exact ⟨by first | rfl | (simp [errW_none, errW_some] <;> rfl) | (simp only [← hji5, ← hji9, ← hji11]; first | rfl | (simp [errW_none, errW_some] <;> rfl)) | (simp [*, errW_none, errW_some] <;> rfl), bL HB.out⟩
            ·replace c18 := Bool.eq_false_iff.mpr c18
             subst c18
             have H1 : (some (0, 0, false)) = some (r1, r2, r3) := by rw [if_neg (show ¬ (false = true) by decide)] at H; exact H
             clear H; have H := H1; clear H1; simp only [Option.some.injEq, Prod.mk.injEq] at H; obtain ⟨rfl, rfl, rfl⟩ := H; have p326 : 0 ≤ (x8_1 : Int) := oD; have q326 : x8_1 < (l0.length : Int) := oD; obtain ⟨ad326, e326, hx326_0⟩ := Kd.at_int HR0.out x8_1 p326 q326
             cases e326
             try (replace hx326_0 := (HB.out.cell (World.block_lt_of_cell? w _ hx326_0)).trans hx326_0)
             replace p326 := eq_true p326; replace q326 := eq_true q326; have p327 : 0 ≤ (x8_1 : Int) := oD; have q327 : x8_1 < (l0.length : Int) := oD; obtain ⟨ad327, e327, hx327_0⟩ := Kd.at_int HR0.out x8_1 p327 q327; obtain rfl : ad326 = ad327 := (by injection e327)
             try (replace hx327_0 := (HB.out.cell (World.block_lt_of_cell? w _ hx327_0)).trans hx327_0)
             replace p327 := eq_true p327; replace q327 := eq_true q327
             try go_wp2
             have n0_ := mK (below_drew1 HB.out); clear HB; have HB := n0_; clear n0_; obtain ⟨i024, hi024, _, hsz24, _⟩ := info_parts info5; obtain ⟨A24, hcut24, hA24, hC24⟩ := print_mid_of (P := Try.prog) (Value.int .u8) 0 24 5 .i64 .i64 Try.underlying24 hi024 hsz24 (some ad326) c0 l0 a1 (wrap64 (x8_1 + 1)) (oD) (by first | omega | exact oD) (oD) HC0.out; have HR331 := mK (Kd.C_of_reads (h1 := fun _ => rfl) (hA24 _ (Kd.reads_of_C HR0.out))); have HC331 := Aside0.mk hC24; clear hA24 hC24 hi024 hsz24; have hSL331 := mK (show ((l0.take ((wrap64 (x8_1 + 1)) : Int).toNat).drop (a1 : Int).toNat).length = ((wrap64 (x8_1 + 1)).toNat - a1.toNat) from (by rw [List.length_drop, List.length_take]; have h_ : ((wrap64 (x8_1 + 1)) : Int) ≤ (l0.length : Int) := oD; omega))
             refine start_ (n := 9) (S := fun w' => True) (ds := []) #[false, false, false, false, false, false, false, false, false] (by kernel_rfl) rfl rfl trivial (fun hHeld => ?_)
             generalize wr.drew = w23 at HB HR331 hHeld ⊢; refine pu_ 0 42 ?_
             refine pu_ 2 44 ?_
             refine pu_ 3 45 ?_
             refine pu_ 4 46 ?_
             refine pu_ 5 47 ?_
             refine pu_ 6 48 ?_
             refine on_ 1 43 (fun K hK => ?_); refine goes_ Try.func50 (by kernel_rfl) rfl #[.int .u64 (Go.bits .or .u64 x7_1 (ji11))] (by rfl) rfl rfl (by (try simp only [List.map_toArray, List.map_cons, List.map_nil]); first | done | (simp only [hji11]; rfl) | rfl | (simp only [List.length_drop, List.length_take]; rfl)) ?_; (with_reducible refine (impl_PutVar.calls k1 (Go.bits .or .u64 x7_1 (ji11)) t328 _ A13.out).mono ?_); rintro e w25 ⟨v329, rfl, ho0, hb⟩; refine ⟨_, rfl, ?_⟩; have _ := mK (Kd.R_lower ho0 (below_size (bL HB.out))); have _ := mK (below_step (bL HB.out) hb); clear HB; rename_i HO330 HB; (try clear hb); (try clear hb2); (try clear hk); (try clear hi); (try clear ho0); obtain ⟨Ao26, co26, eo26⟩ := Kd.R_slice HO330.out; (first | subst eo26 | (injection eo26 with f1_ f2_ f3_; have f4_ := f1_.symm; have f5_ := f3_.symm; clear f1_ f2_ f3_; subst f4_; subst f5_)); refine hK.out _ _ trivial (fun hHeld => ?_); clear hK K; refine norm_ (a' := ?_) ?_ ?_; rotate_left
             ·show Act.put _ (some 43) _ = _
              simp only [Act.put, sq_a, sq_b, sq_c, i64_w, i32_w]; rfl
             refine on_ 7 49 (fun K hK => ?_); refine goes_ Try.func60 (by kernel_rfl) rfl #[.slice Ao26 t328.length co26, .slice A24 ((l0.take ((wrap64 (x8_1 + 1)) : Int).toNat).drop (a1 : Int).toNat).length (c0 - a1.toNat)] (by rfl) rfl rfl (by (try simp only [List.map_toArray, List.map_cons, List.map_nil]); first | done | (rw [show ((l0.take ((wrap64 (x8_1 + 1)) : Int).toNat).drop (a1 : Int).toNat).length = ((wrap64 (x8_1 + 1)).toNat - a1.toNat) from (by rw [List.length_drop, List.length_take]; have h_ : ((wrap64 (x8_1 + 1)) : Int) ≤ (l0.length : Int) := oD; omega)] <;> rfl) | rfl | (simp only [List.length_drop, List.length_take]; rfl)) ?_; (with_reducible refine (bytes_Equal.calls _ _ t328 _ _ ((l0.take ((wrap64 (x8_1 + 1)) : Int).toNat).drop (a1 : Int).toNat) false _ ?side1 ?side2 ?side3 ?side4 A17.out).mono ?_); (case side1 => exact cK (Kd.R_reads' HO330.out).2.2); (case side2 => exact (Kd.R_reads' HO330.out).2.1); (case side3 => exact cK (Kd.C_below HR331.out HB.out)); (case side4 => exact HC331.out); rintro e w' ⟨rfl, ⟨nd, rfl⟩⟩; refine ⟨_, rfl, ?_⟩; refine hK.out _ _ trivial (fun hHeld => ?_); clear hK K; refine norm_ (a' := ?_) ?_ ?_; rotate_left
             ·show Act.put _ (some 49) _ = _
              simp only [Act.put, sq_a, sq_b, sq_c, i64_w, i32_w]; rfl
             refine pu_ 8 50 ?_
             refine done_ (by kernel_rfl) ?_
             try go_wp2
             go_ret3
             exact ⟨by first | rfl | (simp [errW_none, errW_some] <;> rfl) | (simp only [← hji5, ← hji9, ← hji11]; first | rfl | (simp [errW_none, errW_some] <;> rfl)) | (simp [*, errW_none, errW_some] <;> rfl), bL HB.out⟩
           ·rw [if_neg c16] at H; exact absurd H (by simp)
          ·rw [if_neg c15] at H; exact absurd H (by simp)
         ·rw [if_neg c14] at H; exact absurd H (by simp)
        ·rw [if_neg c12] at H
         have c12b0 : decide ((rd l0 x8_1) < 128) = false := decide_eq_false c12; clear c12; have H' := Aside0.mk H; clear H; have p326 : 0 ≤ (x8_1 : Int) := oD; have q326 : x8_1 < (l0.length : Int) := oD; obtain ⟨ad326, e326, hx326_0⟩ := Kd.at_int HR0.out x8_1 p326 q326
         cases e326
         try (replace hx326_0 := (HB.out.cell (World.block_lt_of_cell? w _ hx326_0)).trans hx326_0)
         replace p326 := eq_true p326; replace q326 := eq_true q326; have p327 : 0 ≤ (x8_1 : Int) := oD; have q327 : x8_1 < (l0.length : Int) := oD; obtain ⟨ad327, e327, hx327_0⟩ := Kd.at_int HR0.out x8_1 p327 q327; obtain rfl : ad326 = ad327 := (by injection e327)
         try (replace hx327_0 := (HB.out.cell (World.block_lt_of_cell? w _ hx327_0)).trans hx327_0)
         replace p327 := eq_true p327; replace q327 := eq_true q327
         go_wp2
         go_roundg k1
         case measure => have := HK1.out; omega
         case rel => exact ⟨(Go.bits .or .u64 x7_1 (ji11)), (wrap64 (x8_1 + 1)), (by first | rfl | (simp; done) | (first | exact congrArg Value.bool (by assumption) | exact congrArg Value.bool (Eq.symm (by assumption)) | (simp only [← hji11] <;> (first | rfl | (simp; done)))) | (simp [*]; done)), sE, H', ⟨by have := HK1.out; omega⟩, ⟨bL HB.out⟩⟩
       ·rw [if_neg c10] at H; exact absurd H (by simp)
      ·rw [if_neg c8] at H; exact absurd H (by simp)
     ·rw [if_neg c7] at H; exact absurd H (by simp)
    ·rw [if_neg c6] at H
     have c6b0 : decide (x8_1 < (ji5)) = false := decide_eq_false c6; clear c6; simp only [Option.some.injEq, Prod.mk.injEq] at H; obtain ⟨rfl, rfl, rfl⟩ := H
     go_wp2
     go_ret3
     exact ⟨by first | rfl | (simp [errW_none, errW_some] <;> rfl) | (simp only [← hji5]; first | rfl | (simp [errW_none, errW_some] <;> rfl)) | (simp [*, errW_none, errW_some] <;> rfl), bL HB.out⟩
 ·replace c4 := Bool.eq_false_iff.mpr c4
  subst c4
  have H1 : (some (0, 0, false)) = some (r1, r2, r3) := by rw [if_neg (show ¬ (false = true) by decide)] at H; exact H
  clear H; have H := H1; clear H1; simp only [Option.some.injEq, Prod.mk.injEq] at H; obtain ⟨rfl, rfl, rfl⟩ := H
  go_enter Try.func112, Try.ntmps112
  go_wp2_with (first | ((with_reducible refine gate_callee (f := 25) rfl ?_); refine gL (some 12) Try.func25 #[.int .i64 a1, .int .i64 0, .int .i64 (l0.length : Int)] ?_; (with_reducible refine (impl_within.calls a1 0 (l0.length : Int) false _ A3.out).mono ?_); rintro e w' ⟨rfl, ⟨nd, rfl⟩⟩; refine ⟨_, rfl, ?_⟩))
  go_ret3
  exact ⟨sE, bL HB.out⟩
-- NOT PRINTED: function 89 (impl_reader_number)
-- NOT PRINTED: function 91 (impl_reader_take)
-- NOT PRINTED: function 90 (impl_reader_kind)
end Go.Proofs.Ytllmlnagihlokaa.PFnExactBoundsOf
