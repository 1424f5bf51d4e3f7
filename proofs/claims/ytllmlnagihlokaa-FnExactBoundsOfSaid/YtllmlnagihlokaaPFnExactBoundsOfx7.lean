-- Written by a program of this session.
import Derived.Test.YtllmlnagihlokaaPFnExactBoundsOfx0
namespace Go.Proofs.Ytllmlnagihlokaa.PFnExactBoundsOf
open Go.RowKit Go.Proofs.YtllmlnagihlokaaW.PrintWords Go.Proofs.YtllmlnagihlokaaW.PrintLast Go.Proofs.YtllmlnagihlokaaW.PrintMore
attribute [local go_sem] max2_int min2_int max_two min_two max_three min_three max_four min_four hw_string_geq hw_string_gtr hw_string_leq
set_option linter.unusedVariables false
set_option linter.unusedSimpArgs false
/-! ### spec_l1Number: function 58 -/
def spec_l1Number.l0 : Nat → Int → List Int → Int → Int → Option (Int)
 | 0, _, _, _, _ => none
 | k + 1, x3, x6, x7, x8 => if x8 < x7 then (if 0 ≤ x8 then (if x8 < (x6.length : Int) then (spec_l1Number.l0 k (Go.bits .or .i64 (wrap64 (x3 * 256)) (wrap64 (rd x6 x8))) x6 x7 (wrap64 (x8 + 1))) else (none)) else (none)) else (some x3)
def spec_l1Number.f (k : Nat) (l0 : List Int) : Option (Int) := spec_l1Number.l0 k 0 l0 (l0.length : Int) 0
set_option maxHeartbeats 8000000 in
set_option maxRecDepth 100000 in
theorem spec_l1Number.calls (k : Nat) (A0 : Option Addr) (c0 : Nat) (l0 : List Int) (r : Int) (w : World) (hr0 : Kd.C (Kd.int .u8) w A0 l0.length l0) (hc0 : l0.length ≤ c0) (h : spec_l1Number.f k l0 = some r) :
  Calls Try.prog 58 #[.slice A0 l0.length c0] w fun e w' => e = .returned (.int .i64 r) ∧ Drawn0 w w' := by
 have HR0 := Aside0.mk hr0
 have HC0 := Aside0.mk hc0
 clear hr0 hc0
 have H : (spec_l1Number.l0 k 0 l0 (l0.length : Int) 0) = some r := h
 clear h
 have H' := Aside0.mk H
 clear H
 go_enter Try.func58, Try.ntmps58
 go_wp2
 go_loopg [3, 8] k (fun kq v3 v8 w' => ∃ (x3_1 : Int) (x8_1 : Int), v3 = .int .i64 x3_1 ∧ v8 = .int .i64 x8_1 ∧ Aside0 (spec_l1Number.l0 kq x3_1 l0 (l0.length : Int) x8_1 = some r) ∧ Aside0 (kq ≤ k) ∧ Drawn0 w w')
 case atStart => exact ⟨(0), (0), sE, sE, H', ⟨Nat.le_refl _⟩, dR⟩
 case round =>
  clear H'; obtain ⟨x3_1, x8_1, rfl, rfl, HA, HK1, ⟨m1, rfl⟩⟩ := hrel
  cases gk with
  | zero => exact absurd HA.out (by simp [spec_l1Number.l0])
  | succ k1 =>
   have H := HA.out; clear HA; simp only [spec_l1Number.l0] at H
   by_cases c2 : x8_1 < (l0.length : Int)
   ·rw [if_pos c2] at H
    have c2b0 : decide (x8_1 < (l0.length : Int)) = true := decide_eq_true c2; clear c2
    by_cases c3 : 0 ≤ x8_1
    ·rw [if_pos c3] at H
     have c3b0 : decide (0 ≤ x8_1) = true := decide_eq_true c3; clear c3
     by_cases c4 : x8_1 < (l0.length : Int)
     ·rw [if_pos c4] at H
      have c4b0 : decide (x8_1 < (l0.length : Int)) = true := decide_eq_true c4; clear c4; have H' := Aside0.mk H; clear H; have p187 : 0 ≤ (x8_1 : Int) := oD; have q187 : x8_1 < (l0.length : Int) := oD; obtain ⟨ad187, e187, hx187_0⟩ := Kd.at_int HR0.out x8_1 p187 q187
      cases e187
      replace p187 := eq_true p187; replace q187 := eq_true q187
      go_wp2
      go_roundg k1
      case measure => have := HK1.out; omega
      case rel => exact ⟨(Go.bits .or .i64 (wrap64 (x3_1 * 256)) (wrap64 (rd l0 x8_1))), (wrap64 (x8_1 + 1)), sE, sE, H', ⟨by have := HK1.out; omega⟩, dR⟩
     ·rw [if_neg c4] at H; exact absurd H (by simp)
    ·rw [if_neg c3] at H; exact absurd H (by simp)
   ·rw [if_neg c2] at H
    have c2b0 : decide (x8_1 < (l0.length : Int)) = false := decide_eq_false c2; clear c2; obtain rfl := Option.some.inj H
    go_wp2
    go_ret
    exact ⟨sE, dR⟩
/-! ### spec_l1Var: function 86 -/
mutual
def spec_l1Var.l0 : Nat → List Int → Int → Int → Int → Option (Int × Int)
 | 0, _, _, _, _ => none
 | k + 1, x0, x1, x6, x7 => if x7 < 10 then (spec_l1Var.j1 k x0 x1 x6 x7 (decide ((wrap64 (x1 + x7)) < (x0.length : Int)))) else (spec_l1Var.j1 k x0 x1 x6 x7 false)
def spec_l1Var.j1 : Nat → List Int → Int → Int → Int → Bool → Option (Int × Int)
 | 0, _, _, _, _, _ => none
 | k + 1, x0, x1, x6, x7, x18 => if x18 = true then (if 0 ≤ (wrap64 (x1 + x7)) then (if (wrap64 (x1 + x7)) < (x0.length : Int) then (if x7 = 9 then (spec_l1Var.j2 k x0 x1 x6 x7 (rd x0 (wrap64 (x1 + x7))) (decide ((rd x0 (wrap64 (x1 + x7))) > 1))) else (spec_l1Var.j2 k x0 x1 x6 x7 (rd x0 (wrap64 (x1 + x7))) false)) else (none)) else (none)) else (some (0, 0))
def spec_l1Var.j2 : Nat → List Int → Int → Int → Int → Int → Bool → Option (Int × Int)
 | 0, _, _, _, _, _, _ => none
 | k + 1, x0, x1, x6, x7, x8, x32 => if x32 = true then (some (0, 0)) else (if 0 ≤ (IntKind.u64.wrap (wrap64 (7 * x7))) then (if x8 < 128 then (if x7 > 0 then (if x8 = 0 then (some (0, 0)) else (some (Go.bits .or .u64 x6 (shl .u64 (IntKind.u64.wrap (Go.bits .and .u8 x8 127)) (IntKind.u64.wrap (wrap64 (7 * x7)))), wrap64 ((wrap64 (x1 + x7)) + 1)))) else (some (Go.bits .or .u64 x6 (shl .u64 (IntKind.u64.wrap (Go.bits .and .u8 x8 127)) (IntKind.u64.wrap (wrap64 (7 * x7)))), wrap64 ((wrap64 (x1 + x7)) + 1)))) else (spec_l1Var.l0 k x0 x1 (Go.bits .or .u64 x6 (shl .u64 (IntKind.u64.wrap (Go.bits .and .u8 x8 127)) (IntKind.u64.wrap (wrap64 (7 * x7))))) (wrap64 (x7 + 1)))) else (none))
end
def spec_l1Var.f (k : Nat) (l0 : List Int) (a1 : Int) : Option (Int × Int) := spec_l1Var.l0 k l0 a1 0 0
set_option maxHeartbeats 8000000 in
set_option maxRecDepth 100000 in
theorem spec_l1Var.calls (k : Nat) (A0 : Option Addr) (c0 : Nat) (l0 : List Int) (a1 : Int) (r1 : Int) (r2 : Int) (w : World) (hr0 : Kd.C (Kd.int .u8) w A0 l0.length l0) (hc0 : l0.length ≤ c0) (h : spec_l1Var.f k l0 a1 = some (r1, r2)) :
  Calls Try.prog 86 #[.slice A0 l0.length c0, .int .i64 a1] w fun e w' => e = .returned (.tuple #[.int .u64 r1, .int .i64 r2]) ∧ Drawn0 w w' := by
 have HR0 := Aside0.mk hr0
 have HC0 := Aside0.mk hc0
 clear hr0 hc0
 have H : (spec_l1Var.l0 k l0 a1 0 0) = some (r1, r2) := h
 clear h
 have H' := Aside0.mk H
 clear H
 go_enter Try.func86, Try.ntmps86
 go_wp2
 go_loopg [6, 7] k (fun kq v6 v7 w' => ∃ (x6_1 : Int) (x7_1 : Int), v6 = .int .u64 x6_1 ∧ v7 = .int .i64 x7_1 ∧ Aside0 (spec_l1Var.l0 kq l0 a1 x6_1 x7_1 = some (r1, r2)) ∧ Aside0 (kq ≤ k) ∧ Drawn0 w w')
 case atStart => exact ⟨(0), (0), sE, sE, H', ⟨Nat.le_refl _⟩, dR⟩
 case round =>
  clear H'
  try clear p2
  obtain ⟨x6_1, x7_1, rfl, rfl, HA, HK1, ⟨m1, rfl⟩⟩ := hrel
  cases gk with
  | zero => exact absurd HA.out (by simp [spec_l1Var.l0])
  | succ k1 =>
   have H := HA.out; clear HA; simp only [spec_l1Var.l0] at H; have HC3 := Aside0.mk H; clear H
   go_upto_region 3 with (fail)
   go_cut [18] (fun v18 wc => ∃ (kq : Nat) (x18_2 : Bool), v18 = .bool x18_2 ∧ Aside0 (spec_l1Var.j1 kq l0 a1 x6_1 x7_1 x18_2 = some (r1, r2)) ∧ Aside0 (kq ≤ k1) ∧ Drawn0 w wc)
   case first =>
    have H := HC3.out; clear HC3
    by_cases c4 : x7_1 < 10
    ·rw [if_pos c4] at H
     have c4b0 : decide (x7_1 < 10) = true := decide_eq_true c4; clear c4; (first | rw [c4b0] | (simp only [i64_w, i32_w]; rw [c4b0]) | skip); have H' := Aside0.mk H; clear H
     go_wp2
     go_meet
     case rel => exact ⟨_, (decide ((wrap64 (a1 + x7_1)) < (l0.length : Int))), sE, H', ⟨by have := HK1.out; first | omega | exact Nat.le_refl _⟩, dR⟩
    ·rw [if_neg c4] at H
     have c4b0 : decide (x7_1 < 10) = false := decide_eq_false c4; clear c4; (first | rw [c4b0] | (simp only [i64_w, i32_w]; rw [c4b0]) | skip); have H' := Aside0.mk H; clear H
     go_wp2
     go_meet
     case rel => exact ⟨_, (false), sE, H', ⟨by have := HK1.out; first | omega | exact Nat.le_refl _⟩, dR⟩
   case rest =>
    clear HC3
    try clear p2
    try clear c4
    try clear c4b0
    try clear p2
    obtain ⟨kq, x18_2, rfl, HA, HJ2, ⟨mc2, rfl⟩⟩ := hcut
    cases kq with
    | zero => exact absurd HA.out (by simp [spec_l1Var.j1])
    | succ kj2 =>
     have H := HA.out; clear HA; simp only [spec_l1Var.j1] at H
     by_cases c5 : x18_2 = true
     ·subst c5
      have H1 : (if 0 ≤ (wrap64 (a1 + x7_1)) then (if (wrap64 (a1 + x7_1)) < (l0.length : Int) then (if x7_1 = 9 then (spec_l1Var.j2 kj2 l0 a1 x6_1 x7_1 (rd l0 (wrap64 (a1 + x7_1))) (decide ((rd l0 (wrap64 (a1 + x7_1))) > 1))) else (spec_l1Var.j2 kj2 l0 a1 x6_1 x7_1 (rd l0 (wrap64 (a1 + x7_1))) false)) else (none)) else (none)) = some (r1, r2) := by rw [if_pos rfl] at H; exact H
      clear H; have H := H1; clear H1; obtain ⟨ji6, hji6⟩ : ∃ j_ : Int, (wrap64 (a1 + x7_1)) = j_ := ⟨_, rfl⟩
      replace H : (if 0 ≤ (ji6) then (if (ji6) < (l0.length : Int) then (if x7_1 = 9 then (spec_l1Var.j2 kj2 l0 a1 x6_1 x7_1 (rd l0 (ji6)) (decide ((rd l0 (ji6)) > 1))) else (spec_l1Var.j2 kj2 l0 a1 x6_1 x7_1 (rd l0 (ji6)) false)) else (none)) else (none)) = some (r1, r2) := by first | (rw [hji6] at H; exact H) | (simp only [hji6] at H ⊢; exact H)
      have hji6w : (IntKind.i64.wrap (a1 + x7_1)) = ji6 := (i64_w _).trans hji6
      by_cases c7 : 0 ≤ (ji6)
      ·rw [if_pos c7] at H
       have c7b0 : decide (0 ≤ (ji6)) = true := decide_eq_true c7; clear c7
       by_cases c8 : (ji6) < (l0.length : Int)
       ·rw [if_pos c8] at H
        have c8b0 : decide ((ji6) < (l0.length : Int)) = true := decide_eq_true c8; clear c8; have HC9 := Aside0.mk H; clear H; have p188 : 0 ≤ ((ji6) : Int) := oD; have q188 : (ji6) < (l0.length : Int) := oD; obtain ⟨ad188, e188, hx188_0⟩ := Kd.at_int HR0.out (ji6) p188 q188
        cases e188
        replace p188 := eq_true p188; replace q188 := eq_true q188
        go_upto_region 6 with (fail)
        go_cut [32] (fun v32 wc => ∃ (kq : Nat) (x32_8 : Bool), v32 = .bool x32_8 ∧ Aside0 (spec_l1Var.j2 kq l0 a1 x6_1 x7_1 (rd l0 (ji6)) x32_8 = some (r1, r2)) ∧ Aside0 (kq ≤ kj2) ∧ Drawn0 w wc)
        case first =>
         have H := HC9.out; clear HC9
         by_cases c10 : x7_1 = 9
         ·rw [if_pos c10] at H
          have c10b0 : (x7_1 == 9) = true := beq_iff_eq.mpr c10; have c10b1 : (x7_1 != 9) = false := bne_eq_false_iff_eq.mpr c10; clear c10; (first | rw [c10b0] | (simp only [i64_w, i32_w]; rw [c10b0]) | skip); have H' := Aside0.mk H; clear H
          go_wp2
          go_meet
          case rel => exact ⟨_, (decide ((rd l0 (ji6)) > 1)), (by first | rfl | (simp; done) | (first | exact congrArg Value.bool (by assumption) | exact congrArg Value.bool (Eq.symm (by assumption)) | (simp only [← hji6] <;> (first | rfl | (simp; done)))) | (simp [*]; done)), H', ⟨by have := HK1.out; have := HJ2.out; first | omega | exact Nat.le_refl _⟩, dR⟩
         ·rw [if_neg c10] at H
          have c10b0 : (x7_1 == 9) = false := beq_eq_false_iff_ne.mpr c10; have c10b1 : (x7_1 != 9) = true := bne_iff_ne.mpr c10; (first | rw [c10b0] | (simp only [i64_w, i32_w]; rw [c10b0]) | skip); have H' := Aside0.mk H; clear H
          go_wp2
          go_meet
          case rel => exact ⟨_, (false), sE, H', ⟨by have := HK1.out; have := HJ2.out; first | omega | exact Nat.le_refl _⟩, dR⟩
        case rest =>
         clear HC9
         try clear c1
         try clear p1
         try clear q1
         try clear hx1
         try clear c2
         try clear p2
         try clear c4
         try clear c4b0
         try clear c5
         try clear p6
         try clear c7
         try clear c7b0
         try clear c8
         try clear c8b0
         try clear c10
         try clear c10b0
         try clear c10b1
         try clear hx188_0
         try clear p188
         try clear p2
         try clear q188
         obtain ⟨kq, x32_8, rfl, HA, HJ8, ⟨mc8, rfl⟩⟩ := hcut
         cases kq with
         | zero => exact absurd HA.out (by simp [spec_l1Var.j2])
         | succ kj8 =>
          have H := HA.out; clear HA; simp only [spec_l1Var.j2] at H
          by_cases c11 : x32_8 = true
          ·subst c11
           have H1 : (some (0, 0)) = some (r1, r2) := by rw [if_pos rfl] at H; exact H
           clear H; have H := H1; clear H1; simp only [Option.some.injEq, Prod.mk.injEq] at H; obtain ⟨rfl, rfl⟩ := H
           go_wp2
           go_ret2
           exact ⟨by first | rfl | (simp; done) | (first | exact congrArg Value.bool (by assumption) | exact congrArg Value.bool (Eq.symm (by assumption)) | (simp only [← hji6] <;> (first | rfl | (simp; done)))) | (simp [*]; done), dR⟩
          ·replace c11 := Bool.eq_false_iff.mpr c11
           subst c11
           have H1 : (if 0 ≤ (IntKind.u64.wrap (wrap64 (7 * x7_1))) then (if (rd l0 (ji6)) < 128 then (if x7_1 > 0 then (if (rd l0 (ji6)) = 0 then (some (0, 0)) else (some (Go.bits .or .u64 x6_1 (shl .u64 (IntKind.u64.wrap (Go.bits .and .u8 (rd l0 (ji6)) 127)) (IntKind.u64.wrap (wrap64 (7 * x7_1)))), wrap64 ((wrap64 (a1 + x7_1)) + 1)))) else (some (Go.bits .or .u64 x6_1 (shl .u64 (IntKind.u64.wrap (Go.bits .and .u8 (rd l0 (ji6)) 127)) (IntKind.u64.wrap (wrap64 (7 * x7_1)))), wrap64 ((wrap64 (a1 + x7_1)) + 1)))) else (spec_l1Var.l0 kj8 l0 a1 (Go.bits .or .u64 x6_1 (shl .u64 (IntKind.u64.wrap (Go.bits .and .u8 (rd l0 (ji6)) 127)) (IntKind.u64.wrap (wrap64 (7 * x7_1))))) (wrap64 (x7_1 + 1)))) else (none)) = some (r1, r2) := by rw [if_neg (show ¬ (false = true) by decide)] at H; exact H
           clear H; have H := H1; clear H1; obtain ⟨ji12, hji12⟩ : ∃ j_ : Int, (IntKind.u64.wrap (wrap64 (7 * x7_1))) = j_ := ⟨_, rfl⟩
           replace H : (if 0 ≤ (ji12) then (if (rd l0 (ji6)) < 128 then (if x7_1 > 0 then (if (rd l0 (ji6)) = 0 then (some (0, 0)) else (some (Go.bits .or .u64 x6_1 (shl .u64 (IntKind.u64.wrap (Go.bits .and .u8 (rd l0 (ji6)) 127)) (ji12)), wrap64 ((wrap64 (a1 + x7_1)) + 1)))) else (some (Go.bits .or .u64 x6_1 (shl .u64 (IntKind.u64.wrap (Go.bits .and .u8 (rd l0 (ji6)) 127)) (ji12)), wrap64 ((wrap64 (a1 + x7_1)) + 1)))) else (spec_l1Var.l0 kj8 l0 a1 (Go.bits .or .u64 x6_1 (shl .u64 (IntKind.u64.wrap (Go.bits .and .u8 (rd l0 (ji6)) 127)) (ji12))) (wrap64 (x7_1 + 1)))) else (none)) = some (r1, r2) := by first | (rw [hji12] at H; exact H) | (simp only [hji12] at H ⊢; exact H)
           by_cases c13 : 0 ≤ (ji12)
           ·rw [if_pos c13] at H
            have c13b0 := eq_true c13; have c13b1 : decide (0 ≤ (ji12)) = true := decide_eq_true c13; clear c13; obtain ⟨ji14, hji14⟩ : ∃ j_ : Int, (shl .u64 (IntKind.u64.wrap (Go.bits .and .u8 (rd l0 (ji6)) 127)) (ji12)) = j_ := ⟨_, rfl⟩
            replace H : (if (rd l0 (ji6)) < 128 then (if x7_1 > 0 then (if (rd l0 (ji6)) = 0 then (some (0, 0)) else (some (Go.bits .or .u64 x6_1 (ji14), wrap64 ((wrap64 (a1 + x7_1)) + 1)))) else (some (Go.bits .or .u64 x6_1 (ji14), wrap64 ((wrap64 (a1 + x7_1)) + 1)))) else (spec_l1Var.l0 kj8 l0 a1 (Go.bits .or .u64 x6_1 (ji14)) (wrap64 (x7_1 + 1)))) = some (r1, r2) := by first | (rw [hji14] at H; exact H) | (simp only [hji14] at H ⊢; exact H)
            have hji14_ : (IntKind.u64.wrap ((IntKind.u64.wrap (Go.bits .and .u8 (rd l0 (ji6)) 127)) * 2 ^ min (ji12).toNat 64)) = ji14 := hji14; have hji14z : (ji12) ≤ 64 → (IntKind.u64.wrap ((IntKind.u64.wrap (Go.bits .and .u8 (rd l0 (ji6)) 127)) * 2 ^ (ji12).toNat)) = ji14 := shl_small hji14
            by_cases c15 : (rd l0 (ji6)) < 128
            ·rw [if_pos c15] at H
             have c15b0 : decide ((rd l0 (ji6)) < 128) = true := decide_eq_true c15; clear c15
             by_cases c16 : x7_1 > 0
             ·rw [if_pos c16] at H
              have c16b0 : decide (0 < x7_1) = true := decide_eq_true c16; clear c16
              by_cases c17 : (rd l0 (ji6)) = 0
              ·rw [if_pos c17] at H
               have c17b0 : ((rd l0 (ji6)) == 0) = true := beq_iff_eq.mpr c17; have c17b1 : ((rd l0 (ji6)) != 0) = false := bne_eq_false_iff_eq.mpr c17; clear c17; simp only [Option.some.injEq, Prod.mk.injEq] at H; obtain ⟨rfl, rfl⟩ := H
               go_wp2
               go_ret2
               exact ⟨by first | rfl | (simp; done) | (simp only [← hji6, ← hji12, ← hji14] <;> (first | rfl | simp)) | (simp [*]; done), dR⟩
              ·rw [if_neg c17] at H
               have c17b0 : ((rd l0 (ji6)) == 0) = false := beq_eq_false_iff_ne.mpr c17; have c17b1 : ((rd l0 (ji6)) != 0) = true := bne_iff_ne.mpr c17; simp only [Option.some.injEq, Prod.mk.injEq] at H; obtain ⟨rfl, rfl⟩ := H
               go_wp2
               go_ret2
               exact ⟨by first | rfl | (simp; done) | (simp only [← hji6, ← hji12, ← hji14] <;> (first | rfl | simp)) | (simp [*]; done), dR⟩
             ·rw [if_neg c16] at H
              have c16b0 : decide (0 < x7_1) = false := decide_eq_false c16; clear c16; simp only [Option.some.injEq, Prod.mk.injEq] at H; obtain ⟨rfl, rfl⟩ := H
              go_wp2
              go_ret2
              exact ⟨by first | rfl | (simp; done) | (simp only [← hji6, ← hji12, ← hji14] <;> (first | rfl | simp)) | (simp [*]; done), dR⟩
            ·rw [if_neg c15] at H
             have c15b0 : decide ((rd l0 (ji6)) < 128) = false := decide_eq_false c15; clear c15; have H' := Aside0.mk H; clear H
             go_wp2
             go_roundg kj8
             case measure => have := HK1.out; have := HJ2.out; have := HJ8.out; omega
             case rel => exact ⟨(Go.bits .or .u64 x6_1 (ji14)), (wrap64 (x7_1 + 1)), (by first | rfl | (simp; done) | (first | exact congrArg Value.bool (by assumption) | exact congrArg Value.bool (Eq.symm (by assumption)) | (simp only [← hji14] <;> (first | rfl | (simp; done)))) | (simp [*]; done)), sE, H', ⟨by have := HK1.out; have := HJ2.out; have := HJ8.out; omega⟩, dR⟩
           ·rw [if_neg c13] at H; exact absurd H (by simp)
       ·rw [if_neg c8] at H; exact absurd H (by simp)
      ·rw [if_neg c7] at H; exact absurd H (by simp)
     ·replace c5 := Bool.eq_false_iff.mpr c5
      subst c5
      have H1 : (some (0, 0)) = some (r1, r2) := by rw [if_neg (show ¬ (false = true) by decide)] at H; exact H
      clear H; have H := H1; clear H1; simp only [Option.some.injEq, Prod.mk.injEq] at H; obtain ⟨rfl, rfl⟩ := H
      go_wp2
      go_ret2
      exact ⟨sE, dR⟩
end Go.Proofs.Ytllmlnagihlokaa.PFnExactBoundsOf
