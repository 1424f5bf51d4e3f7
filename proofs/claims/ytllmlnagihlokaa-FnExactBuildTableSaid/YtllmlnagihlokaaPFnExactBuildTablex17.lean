-- Written for this claim by a program of this session: a scratch copy of the kit's print with patches of this session.
import Derived.Test.YtllmlnagihlokaaPFnExactBuildTablex0
import Derived.Test.YtllmlnagihlokaaPFnExactBuildTablex1
import Derived.Test.YtllmlnagihlokaaPFnExactBuildTablex7
import Derived.Test.YtllmlnagihlokaaPFnExactBuildTablex15
import Derived.Test.YtllmlnagihlokaaPFnExactBuildTablex16
namespace Go.Proofs.Ytllmlnagihlokaa.PFnExactBuildTable
open Go.RowKit Go.Proofs.YtllmlnagihlokaaW.PrintWords Go.Proofs.YtllmlnagihlokaaW.PrintLast Go.Proofs.YtllmlnagihlokaaW.PrintMore
attribute [local go_sem] max2_int min2_int max_two min_two max_three min_three max_four min_four hw_string_geq hw_string_gtr hw_string_leq   -- for this text's walks alone
set_option linter.unusedVariables false
set_option linter.unusedSimpArgs false
theorem sq17_a {α : Type _} (l : List α) (i : Nat) (a : α) : l.toArray.setIfInBounds i a = (l.set i a).toArray := by simp
theorem sq17_b {α : Type _} (x : α) (l : List α) (a : α) : (x :: l).set 0 a = a :: l := rfl
theorem sq17_c {α : Type _} (x : α) (l : List α) (n : Nat) (a : α) : (x :: l).set (n + 1) a = x :: l.set n a := rfl

/-! ### laws_markByteS: function 13 -/
def laws_markByteS.l0 : Nat → List Int → Int → Int → Option (Int × List Int)
 | 0, _, _, _ => none
 | k + 1, x0, x1, x5 => if x5 < (x0.length : Int) then (if 0 ≤ x5 then (laws_markByteS.l0 k (x0.set (x5 : Int).toNat ((x1) % 256)) (wrap64 (x1 + 1)) (wrap64 (x5 + 1))) else (none)) else (some (x1, x0))
def laws_markByteS.f (k : Nat) (l0 : List Int) (a1 : Int) : Option (Int × List Int) := laws_markByteS.l0 k l0 a1 0
theorem laws_markByteS.mono_l : ∀ k, (∀ y0 y1 y2, LeO (laws_markByteS.l0 k y0 y1 y2) (laws_markByteS.l0 (k + 1) y0 y1 y2))
 | 0 => fun _ _ _ r h => by simp [laws_markByteS.l0] at h
 | k + 1 => by
  have ih0 := laws_markByteS.mono_l k
  ·intro y0 y1 y2
   unfold laws_markByteS.l0
   repeat' first
   | (with_reducible exact ih0 _ _ _)
   | (with_reducible exact LeO.refl _)
   | (with_reducible exact LeO.none _)
   | (with_reducible refine LeO.ite ?_ ?_)
   | (with_reducible refine LeO.bind ?_ (fun _ => ?_))
   | exact ih0 _ _ _
   | exact LeO.none _
   | refine LeO.ite ?_ ?_
   | refine LeO.bind ?_ (fun _ => ?_)
theorem laws_markByteS.mono : ∀ a0 a1 k, LeO (laws_markByteS.f k a0 a1) (laws_markByteS.f (k + 1) a0 a1) := by
 intro a0 a1 k
 have ih0 := laws_markByteS.mono_l k
 unfold laws_markByteS.f
 repeat' first
   | (with_reducible exact ih0 _ _ _)
   | (with_reducible exact LeO.refl _)
   | (with_reducible exact LeO.none _)
   | (with_reducible refine LeO.ite ?_ ?_)
   | (with_reducible refine LeO.bind ?_ (fun _ => ?_))
   | exact ih0 _ _ _
   | exact LeO.none _
   | refine LeO.ite ?_ ?_
   | refine LeO.bind ?_ (fun _ => ?_)
set_option maxHeartbeats 8000000 in
set_option maxRecDepth 100000 in
theorem laws_markByteS.calls (k : Nat) (P0_ : Nat → Prop) (u9000_ : Value) (l0 : List Int) (a1 : Int) (r1 : Int) (r2 : List Int) (w0 w : World) (hB : Below w0.heap.size w0 w) (ho0 : Kd.R (Kd.int .u8) 5 w w0.heap.size P0_ u9000_ l0) (h : laws_markByteS.f k l0 a1 = some (r1, r2)) :
  Calls Try.prog 13 #[u9000_, .int .i64 a1] w fun e w' => e = .returned (.int .i64 r1) ∧ Kd.R (Kd.int .u8) 5 w' w0.heap.size (fun k_ => (P0_ k_ ∨ w.heap.size ≤ k_)) u9000_ r2 ∧ Below w0.heap.size w0 w' ∧ Kept w w' (fun k_ => P0_ k_) := by
 have HO0 := mK (show Kd.R (Kd.int .u8) 5 w w0.heap.size (fun k_ => (P0_ k_ ∨ w.heap.size ≤ k_)) u9000_ l0 from Kd.R_mono ho0 (fun k_ hk => (.inl hk)))
 have HK := mK (Kept.refl w (fun k_ => P0_ k_))
 have HW0 := Aside0.mk hB.size
 have HB := Aside0.mk hB
 clear hB
 have H : (laws_markByteS.l0 k l0 a1 0) = some (r1, r2) := h
 clear h
 have H' := Aside0.mk H
 clear H
 go_enter Try.func13, Try.ntmps13
 go_wp2
 go_loopg [1, 5] k (fun kq v1 v5 w' => ∃ (x0_1 : List Int) (x1_1 : Int) (x5_1 : Int), v1 = .int .i64 x1_1 ∧ v5 = .int .i64 x5_1 ∧ Aside0 (laws_markByteS.l0 kq x0_1 x1_1 x5_1 = some (r1, r2)) ∧ Aside0 (kq ≤ k) ∧ Aside0 (Kd.R (Kd.int .u8) 5 w' w0.heap.size (fun k_ => (P0_ k_ ∨ w.heap.size ≤ k_)) u9000_ x0_1) ∧ Aside0 (Kept w w' (fun k_ => P0_ k_)) ∧ Aside0 (Below w0.heap.size w0 w'))
 case atStart => exact ⟨(l0), (a1), (0), (by first | rfl | (simp; done) | (simp [*]; done)), (by first | rfl | (simp; done) | (simp [*]; done)), H', ⟨Nat.le_refl _⟩, ⟨by (with_reducible repeat (first | apply Kd.R_alloc | apply Kd.R_drewN | apply Kd.R_drew)); exact HO0.out⟩, ⟨by repeat (first | (with_reducible first | exact HK.out | apply Kept.alloc | apply Kept.drewN | apply Kept.drew) | exact HK.out)⟩, ⟨by repeat (first | (with_reducible first | exact HB.out | apply below_alloc | apply pw_below_drewN | apply below_drew1) | exact HB.out)⟩⟩
 case round =>
  clear H'
  try clear c1
  try clear p2
  obtain ⟨x0_1, x1_1, x5_1, rfl, rfl, HA, HK1, HO_0, HK, HB⟩ := hrel
  cases gk with
  | zero => exact absurd HA.out (by simp [laws_markByteS.l0])
  | succ k1 =>
   have H := HA.out; clear HA; simp only [laws_markByteS.l0] at H
   by_cases c3 : x5_1 < (x0_1.length : Int)
   ·rw [if_pos c3] at H
    have c3b0 : decide (x5_1 < (x0_1.length : Int)) = true := decide_eq_true c3; clear c3
    by_cases c4 : 0 ≤ x5_1
    ·rw [if_pos c4] at H
     have c4b0 : decide (0 ≤ x5_1) = true := decide_eq_true c4; clear c4; obtain ⟨y379, hy379⟩ : ∃ y_ : List Int, y_ = (x0_1.set (x5_1 : Int).toNat ((x1_1) % 256)) := ⟨_, rfl⟩
     replace H : (laws_markByteS.l0 k1 y379 (wrap64 (x1_1 + 1)) (wrap64 (x5_1 + 1))) = some (r1, r2) := by first | (rw [hy379]; with_reducible exact H) | (have H2_ := (Option.bind_some _ _).symm.trans H; rw [hy379]; with_reducible exact H2_) | (have H2_ := (Option.bind_some _ _).symm.trans H; with_reducible exact H2_) | with_reducible exact H | (rw [hy379]; exact H) | exact H
     have Ny379 := Aside0.mk hy379; clear hy379; have H' := Aside0.mk H; clear H; obtain ⟨Ao6, co6, eo6⟩ := Kd.R_slice HO_0.out; subst eo6; have p5 : 0 ≤ (x5_1 : Int) := of_decide_eq_true (by first | (with_reducible assumption) | assumption); have q5 : (x5_1 : Int) < ((x0_1.length : Int) : Int) := of_decide_eq_true (by first | (with_reducible assumption) | assumption); obtain ⟨go5, co5, eo5, gb5, gl5, cl5, HG5⟩ := Kd.R_form HO_0.out (by omega); (first | cases eo5 | (injection eo5 with ea_ en_ ec_; (first | subst ea_ | (injection ea_ with ea_; subst ea_)); subst ec_; clear en_)); have GB5 := Aside0.mk gb5; have GG5 := Aside0.mk HG5; clear gb5 gl5 HG5; have HMgo5 := mK (show (P0_ go5 ∨ w.heap.size ≤ go5) from (HO_0.out.1 _ rfl)); obtain ⟨hx5_0, hf5_0⟩ := Kd.R_celln 0 HO_0.out (x5_1 : Int) p5 q5; replace p5 := eq_true p5; replace q5 := eq_true q5; have HP7 := Kd.R_putg HO_0.out (x5_1 : Int) ((x1_1) % 256)
     go_wp2_with (first | ((with_reducible refine gate_store (t := 5) (p := 16) rfl ?_); refine store_event (t := 5) (p := 16) (v := ?vo_w8) (w1 := (wr.setCell ⟨go5, (x5_1 : Int).toNat, none⟩ (.int .u8 ((x1_1) % 256)))) ?hg ?ho ?hn ?hr ?_; (case ho => rfl); (case hg => rfl); (case hn => rfl); (case hr => first | (go_simp; done) | (go_simp; rfl)); intro w8 hw; have hg : wr.grownBy w8 (some go5) := (by rw [hw]; exact HP7.2); have hp_ : Kd.R (Kd.int .u8) 5 w8 w0.heap.size (fun k_ => (P0_ k_ ∨ w.heap.size ≤ k_)) (.slice (some ⟨go5, 0, none⟩) x0_1.length co6) y379 := (by rw [hw, Ny379.out]; exact HP7.1); clear HP7; have _ := mK (hp_); have _ := mK ((by rw [hw]; exact below_set (HB.out) GB5.out : Below w0.heap.size w0 w8)); have _ := mK (Kept.of_grown (S := (fun k_ => P0_ k_)) hg (by repeat (first | (with_reducible first | exact HK.out | apply Kept.alloc | apply Kept.drewN | apply Kept.drew) | exact HK.out)) (fun k_ e_ => (HO_0.out.1 k_ e_))); clear HO_0 HB HK; rename_i HO_0 HB HK; clear hg hw hp_))
     go_roundg k1
     case measure => have := HK1.out; omega
     case rel => exact ⟨(y379), (wrap64 (x1_1 + 1)), (wrap64 (x5_1 + 1)), (by first | rfl | (simp; done) | (simp [*]; done)), (by first | rfl | (simp; done) | (simp [*]; done)), H', ⟨by have := HK1.out; omega⟩, ⟨by (with_reducible repeat (first | apply Kd.R_alloc | apply Kd.R_drewN | apply Kd.R_drew)); exact HO_0.out⟩, ⟨by repeat (first | (with_reducible first | exact HK.out | apply Kept.alloc | apply Kept.drewN | apply Kept.drew) | exact HK.out)⟩, ⟨by repeat (first | (with_reducible first | exact HB.out | apply below_alloc | apply pw_below_drewN | apply below_drew1) | exact HB.out)⟩⟩
    ·rw [if_neg c4] at H; exact absurd H (by simp)
   ·rw [if_neg c3] at H
    have c3b0 : decide (x5_1 < (x0_1.length : Int)) = false := decide_eq_false c3; clear c3; simp only [Option.some.injEq, Prod.mk.injEq] at H; obtain ⟨rfl, rfl⟩ := H; obtain ⟨Ao9, co9, eo9⟩ := Kd.R_slice HO_0.out; subst eo9
    go_wp2
    go_ret
    exact ⟨by first | rfl | (simp [errW_none, errW_some] <;> rfl) | (simp [*, errW_none, errW_some] <;> rfl), by (with_reducible repeat (first | apply Kd.R_alloc | apply Kd.R_drewN | apply Kd.R_drew)); exact HO_0.out, by repeat (first | (with_reducible first | exact HB.out | apply below_alloc | apply pw_below_drewN | apply below_drew1) | exact HB.out), by repeat (first | (with_reducible first | exact HK.out | apply Kept.alloc | apply Kept.drewN | apply Kept.drew) | exact HK.out)⟩

/-! ### laws_heldByteS: function 14 -/
def laws_heldByteS.l0 : Nat → List Int → Int → Int → Option (Int)
 | 0, _, _, _ => none
 | k + 1, x0, x1, x5 => if x5 < (x0.length : Int) then (if 0 ≤ x5 then (if (rd x0 x5) = ((x1) % 256) then (laws_heldByteS.l0 k x0 (wrap64 (x1 + 1)) (wrap64 (x5 + 1))) else (some (-1))) else (none)) else (some x1)
def laws_heldByteS.f (k : Nat) (l0 : List Int) (a1 : Int) : Option (Int) := laws_heldByteS.l0 k l0 a1 0
theorem laws_heldByteS.mono_l : ∀ k, (∀ y0 y1 y2, LeO (laws_heldByteS.l0 k y0 y1 y2) (laws_heldByteS.l0 (k + 1) y0 y1 y2))
 | 0 => fun _ _ _ r h => by simp [laws_heldByteS.l0] at h
 | k + 1 => by
  have ih0 := laws_heldByteS.mono_l k
  ·intro y0 y1 y2
   unfold laws_heldByteS.l0
   repeat' first
   | (with_reducible exact ih0 _ _ _)
   | (with_reducible exact LeO.refl _)
   | (with_reducible exact LeO.none _)
   | (with_reducible refine LeO.ite ?_ ?_)
   | (with_reducible refine LeO.bind ?_ (fun _ => ?_))
   | exact ih0 _ _ _
   | exact LeO.none _
   | refine LeO.ite ?_ ?_
   | refine LeO.bind ?_ (fun _ => ?_)
theorem laws_heldByteS.mono : ∀ a0 a1 k, LeO (laws_heldByteS.f k a0 a1) (laws_heldByteS.f (k + 1) a0 a1) := by
 intro a0 a1 k
 have ih0 := laws_heldByteS.mono_l k
 unfold laws_heldByteS.f
 repeat' first
   | (with_reducible exact ih0 _ _ _)
   | (with_reducible exact LeO.refl _)
   | (with_reducible exact LeO.none _)
   | (with_reducible refine LeO.ite ?_ ?_)
   | (with_reducible refine LeO.bind ?_ (fun _ => ?_))
   | exact ih0 _ _ _
   | exact LeO.none _
   | refine LeO.ite ?_ ?_
   | refine LeO.bind ?_ (fun _ => ?_)
set_option maxHeartbeats 8000000 in
set_option maxRecDepth 100000 in
theorem laws_heldByteS.calls (k : Nat) (A0 : Option Addr) (c0 : Nat) (l0 : List Int) (a1 : Int) (r : Int) (w : World) (hr0 : Kd.C (Kd.int .u8) w A0 l0.length l0) (hc0 : l0.length ≤ c0) (h : laws_heldByteS.f k l0 a1 = some r) :
  Calls Try.prog 14 #[.slice A0 l0.length c0, .int .i64 a1] w fun e w' => e = .returned (.int .i64 r) ∧ Drawn0 w w' := by
 have HR0 := Aside0.mk hr0
 have HC0 := Aside0.mk hc0
 clear hr0 hc0
 have H : (laws_heldByteS.l0 k l0 a1 0) = some r := h
 clear h
 have H' := Aside0.mk H
 clear H
 go_enter Try.func14, Try.ntmps14
 go_wp2
 go_loopg [1, 5] k (fun kq v1 v5 w' => ∃ (x1_1 : Int) (x5_1 : Int), v1 = .int .i64 x1_1 ∧ v5 = .int .i64 x5_1 ∧ Aside0 (laws_heldByteS.l0 kq l0 x1_1 x5_1 = some r) ∧ Aside0 (kq ≤ k) ∧ Drawn0 w w')
 case atStart => exact ⟨(a1), (0), (by first | rfl | (simp; done) | (simp [*]; done)), (by first | rfl | (simp; done) | (simp [*]; done)), H', ⟨Nat.le_refl _⟩, by repeat (first | exact Drawn0.refl _ | apply Drawn0.step)⟩
 case round =>
  clear H'
  try clear c1
  try clear p2
  obtain ⟨x1_1, x5_1, rfl, rfl, HA, HK1, ⟨m1, rfl⟩⟩ := hrel
  cases gk with
  | zero => exact absurd HA.out (by simp [laws_heldByteS.l0])
  | succ k1 =>
   have H := HA.out; clear HA; simp only [laws_heldByteS.l0] at H
   by_cases c3 : x5_1 < (l0.length : Int)
   ·rw [if_pos c3] at H
    have c3b0 : decide (x5_1 < (l0.length : Int)) = true := decide_eq_true c3; clear c3
    by_cases c4 : 0 ≤ x5_1
    ·rw [if_pos c4] at H
     have c4b0 : decide (0 ≤ x5_1) = true := decide_eq_true c4; clear c4
     by_cases c5 : (rd l0 x5_1) = ((x1_1) % 256)
     ·rw [if_pos c5] at H
      have c5b0 : ((rd l0 x5_1) == ((x1_1) % 256)) = true := beq_iff_eq.mpr c5; have c5b1 : ((rd l0 x5_1) != ((x1_1) % 256)) = false := bne_eq_false_iff_eq.mpr c5; clear c5; have H' := Aside0.mk H; clear H; have p380 : 0 ≤ (x5_1 : Int) := of_decide_eq_true (by first | (with_reducible assumption) | assumption); have q380 : x5_1 < (l0.length : Int) := of_decide_eq_true (by first | (with_reducible assumption) | assumption); obtain ⟨ad380, e380, hx380_0⟩ := Kd.at_int HR0.out x5_1 p380 q380
      cases e380
      replace p380 := eq_true p380; replace q380 := eq_true q380
      go_wp2
      go_roundg k1
      case measure => have := HK1.out; omega
      case rel => exact ⟨(wrap64 (x1_1 + 1)), (wrap64 (x5_1 + 1)), (by first | rfl | (simp; done) | (simp [*]; done)), (by first | rfl | (simp; done) | (simp [*]; done)), H', ⟨by have := HK1.out; omega⟩, by repeat (first | exact Drawn0.refl _ | apply Drawn0.step)⟩
     ·rw [if_neg c5] at H
      have c5b0 : ((rd l0 x5_1) == ((x1_1) % 256)) = false := beq_eq_false_iff_ne.mpr c5; have c5b1 : ((rd l0 x5_1) != ((x1_1) % 256)) = true := bne_iff_ne.mpr c5; obtain rfl := Option.some.inj H; have p380 : 0 ≤ (x5_1 : Int) := of_decide_eq_true (by first | (with_reducible assumption) | assumption); have q380 : x5_1 < (l0.length : Int) := of_decide_eq_true (by first | (with_reducible assumption) | assumption); obtain ⟨ad380, e380, hx380_0⟩ := Kd.at_int HR0.out x5_1 p380 q380
      cases e380
      replace p380 := eq_true p380; replace q380 := eq_true q380
      go_wp2
      go_ret
      exact ⟨by first | rfl | (simp; done) | (simp [*]; done), by repeat (first | exact Drawn0.refl _ | apply Drawn0.step)⟩
    ·rw [if_neg c4] at H; exact absurd H (by simp)
   ·rw [if_neg c3] at H
    have c3b0 : decide (x5_1 < (l0.length : Int)) = false := decide_eq_false c3; clear c3; obtain rfl := Option.some.inj H
    go_wp2
    go_ret
    exact ⟨by first | rfl | (simp; done) | (simp [*]; done), by repeat (first | exact Drawn0.refl _ | apply Drawn0.step)⟩

/-! ### laws_FnExactBuildTable: function 3, a law by hand -/
def laws_FnExactBuildTable.f (k : Nat) (l0 : List (S45)) (a1 : Int) : Option (Bool) := (laws_szEntryS.f k l0 1048576).bind fun t1 => if t1 < 0 then some true else (laws_toEntryS.f k l0).bind fun t2 => (spec_BuildTable.f k t2 a1).bind fun bt3 => (laws_toEntryS.f k l0).bind fun t5 => (impl_BuildTable.f k t5 a1).bind fun bt6 => (laws_eqByteS.f k bt6.1 bt3.1).bind fun t8 => (laws_toEntryS.f k l0).bind fun t9 => (laws_eqEntryS.f k t5 t9).bind fun t10 => (laws_markEntryS.f k t5 1).bind fun bt11 => (laws_eqByteS.f k bt6.1 bt3.1).bind fun t13 => (laws_markByteS.f k bt6.1 1).bind fun bt14 => (laws_heldByteS.f k bt14.2 1).bind fun t16 => (laws_toEntryS.f k l0).bind fun t17 => (impl_BuildTable.f k t17 a1).bind fun bt18 => (laws_eqByteS.f k bt18.1 bt3.1).bind fun t20 => (laws_heldByteS.f k bt14.2 1).bind fun t21 => if t8 = true ∧ bt6.2 = bt3.2 ∧ t10 = true ∧ ¬ bt11.1 < 0 ∧ t13 = true ∧ bt6.2 = bt3.2 ∧ ¬ t16 < 0 ∧ t16 = bt14.1 ∧ t20 = true ∧ bt18.2 = bt3.2 ∧ ¬ t21 < 0 ∧ t21 = bt14.1 then some true else none
theorem laws_FnExactBuildTable.mono : ∀ a0 a1 k, LeO (laws_FnExactBuildTable.f k a0 a1) (laws_FnExactBuildTable.f (k + 1) a0 a1) := by
 intro a0 a1 k
 unfold laws_FnExactBuildTable.f
 repeat' first
   | (with_reducible exact impl_BuildTable.mono _ _ _)
   | (with_reducible exact laws_eqByteS.mono _ _ _)
   | (with_reducible exact laws_eqEntryS.mono _ _ _)
   | (with_reducible exact laws_heldByteS.mono _ _ _)
   | (with_reducible exact laws_markByteS.mono _ _ _)
   | (with_reducible exact laws_markEntryS.mono _ _ _)
   | (with_reducible exact laws_szEntryS.mono _ _ _)
   | (with_reducible exact laws_toEntryS.mono _ _)
   | (with_reducible exact spec_BuildTable.mono _ _ _)
   | (with_reducible exact LeO.refl _)
   | (with_reducible exact LeO.none _)
   | (with_reducible refine LeO.ite ?_ ?_)
   | (with_reducible refine LeO.bind ?_ (fun _ => ?_))
   | exact impl_BuildTable.mono _ _ _
   | exact laws_eqByteS.mono _ _ _
   | exact laws_eqEntryS.mono _ _ _
   | exact laws_heldByteS.mono _ _ _
   | exact laws_markByteS.mono _ _ _
   | exact laws_markEntryS.mono _ _ _
   | exact laws_szEntryS.mono _ _ _
   | exact laws_toEntryS.mono _ _
   | exact spec_BuildTable.mono _ _ _
   | exact LeO.none _
   | refine LeO.ite ?_ ?_
   | refine LeO.bind ?_ (fun _ => ?_)
set_option maxHeartbeats 16000000 in
set_option maxRecDepth 100000 in
theorem laws_FnExactBuildTable.calls (k : Nat) (A0 : Option Addr) (c0 : Nat) (l0 : List (S45)) (a1 : Int) (r : Bool) (w : World) (hr0 : Kd.C k45 w A0 l0.length l0) (hc0 : l0.length ≤ c0) (h : laws_FnExactBuildTable.f k l0 a1 = some r) :
  Calls Try.prog 3 #[.slice A0 l0.length c0, .int .i64 a1] w fun e w' => e = .returned (.bool r) ∧ Below w.heap.size w w' := by
 have HR0 := Aside0.mk hr0
 have HC0 := Aside0.mk hc0
 clear hr0 hc0
 have HB := mK (Below.refl w.heap.size w)
 unfold laws_FnExactBuildTable.f at h
 replace h := Option.bind_eq_some_iff.mp h
 obtain ⟨t1, hA1, h⟩ := h
 have A1_ := mK (show laws_szEntryS.f k l0 1048576 = some t1 from hA1)
 clear hA1
 try dsimp only at h
 by_cases hl1 : t1 < 0
 ·rw [if_pos hl1] at h
  have hlb1 := decide_eq_true hl1; clear hl1; obtain rfl := Option.some.inj h; clear h
  go_enter Try.func3, Try.ntmps3
  go_wp2_with (first | ((with_reducible refine gate_callee (f := 6) rfl ?_); refine gL (some 18) Try.func6 #[.slice A0 l0.length c0, .int .i64 1048576] ?_; (with_reducible refine (laws_szEntryS.calls k _ _ l0 1048576 t1 _ ?side1 ?side2 A1_.out).mono ?_); (case side1 => exact cK (Kd.C_below HR0.out HB.out)); (case side2 => exact HC0.out); rintro e w1_ ⟨rfl, hb⟩; refine ⟨_, rfl, ?_⟩; have sz_ : w.heap.size ≤ w1_.heap.size := hb.size; have n0_ := mK (below_step (by repeat (first | exact HB.out | apply below_alloc | apply pw_below_drewN | apply below_drew1)) hb); clear HB; have HB := n0_; clear n0_; have SZ1 := Aside0.mk sz_; clear sz_ hb))
  go_ret
  exact ⟨by first | rfl | (simp; done), (by repeat (first | exact HB.out | apply below_alloc | apply pw_below_drewN | apply below_drew1))⟩
 rw [if_neg hl1] at h
 have hlb1 := decide_eq_false hl1
 clear hl1
 replace h := Option.bind_eq_some_iff.mp h
 obtain ⟨t2, hA2, h⟩ := h
 have A2_ := mK (show laws_toEntryS.f k l0 = some t2 from hA2)
 clear hA2
 try dsimp only at h
 replace h := Option.bind_eq_some_iff.mp h
 obtain ⟨⟨t3, t4⟩, hA3, h⟩ := h
 have A3_ := mK (show spec_BuildTable.f k t2 a1 = some (t3, t4) from hA3)
 clear hA3
 try dsimp only at h
 replace h := Option.bind_eq_some_iff.mp h
 obtain ⟨t5, hA4, h⟩ := h
 have A4_ := mK (show laws_toEntryS.f k l0 = some t5 from hA4)
 clear hA4
 try dsimp only at h
 replace h := Option.bind_eq_some_iff.mp h
 obtain ⟨⟨t6, t7⟩, hA5, h⟩ := h
 have A5_ := mK (show impl_BuildTable.f k t5 a1 = some (t6, t7) from hA5)
 clear hA5
 try dsimp only at h
 replace h := Option.bind_eq_some_iff.mp h
 obtain ⟨t8, hA6, h⟩ := h
 have A6_ := mK (show laws_eqByteS.f k t6 t3 = some t8 from hA6)
 clear hA6
 try dsimp only at h
 replace h := Option.bind_eq_some_iff.mp h
 obtain ⟨t9, hA7, h⟩ := h
 have A7_ := mK (show laws_toEntryS.f k l0 = some t9 from hA7)
 clear hA7
 try dsimp only at h
 replace h := Option.bind_eq_some_iff.mp h
 obtain ⟨t10, hA8, h⟩ := h
 have A8_ := mK (show laws_eqEntryS.f k t5 t9 = some t10 from hA8)
 clear hA8
 try dsimp only at h
 replace h := Option.bind_eq_some_iff.mp h
 obtain ⟨⟨t11, t12⟩, hA9, h⟩ := h
 have A9_ := mK (show laws_markEntryS.f k t5 1 = some (t11, t12) from hA9)
 clear hA9
 try dsimp only at h
 replace h := Option.bind_eq_some_iff.mp h
 obtain ⟨t13, hA10, h⟩ := h
 have A10_ := mK (show laws_eqByteS.f k t6 t3 = some t13 from hA10)
 clear hA10
 try dsimp only at h
 replace h := Option.bind_eq_some_iff.mp h
 obtain ⟨⟨t14, t15⟩, hA11, h⟩ := h
 have A11_ := mK (show laws_markByteS.f k t6 1 = some (t14, t15) from hA11)
 clear hA11
 try dsimp only at h
 replace h := Option.bind_eq_some_iff.mp h
 obtain ⟨t16, hA12, h⟩ := h
 have A12_ := mK (show laws_heldByteS.f k t15 1 = some t16 from hA12)
 clear hA12
 try dsimp only at h
 replace h := Option.bind_eq_some_iff.mp h
 obtain ⟨t17, hA13, h⟩ := h
 have A13_ := mK (show laws_toEntryS.f k l0 = some t17 from hA13)
 clear hA13
 try dsimp only at h
 replace h := Option.bind_eq_some_iff.mp h
 obtain ⟨⟨t18, t19⟩, hA14, h⟩ := h
 have A14_ := mK (show impl_BuildTable.f k t17 a1 = some (t18, t19) from hA14)
 clear hA14
 try dsimp only at h
 replace h := Option.bind_eq_some_iff.mp h
 obtain ⟨t20, hA15, h⟩ := h
 have A15_ := mK (show laws_eqByteS.f k t18 t3 = some t20 from hA15)
 clear hA15
 try dsimp only at h
 replace h := Option.bind_eq_some_iff.mp h
 obtain ⟨t21, hA16, h⟩ := h
 have A16_ := mK (show laws_heldByteS.f k t15 1 = some t21 from hA16)
 clear hA16
 try dsimp only at h
 by_cases hcond : t8 = true ∧ t7 = t4 ∧ t10 = true ∧ ¬ t11 < 0 ∧ t13 = true ∧ t7 = t4 ∧ ¬ t16 < 0 ∧ t16 = t14 ∧ t20 = true ∧ t19 = t4 ∧ ¬ t21 < 0 ∧ t21 = t14
 ·rw [if_pos hcond] at h
  obtain rfl := Option.some.inj h; clear h; obtain ⟨z0_, z1_, z2_, z3_, z4_, z5_, z6_, z7_, z8_, z9_, z10_, z11_⟩ := hcond; subst z0_; have zb1 := bne_eq_false_iff_eq.mpr z1_; have ze1 := beq_iff_eq.mpr z1_; clear z1_; subst z2_; have zb3 := decide_eq_false z3_; clear z3_; subst z4_; have zb5 := bne_eq_false_iff_eq.mpr z5_; have ze5 := beq_iff_eq.mpr z5_; clear z5_; have zb6 := decide_eq_false z6_; clear z6_; have zb7 := bne_eq_false_iff_eq.mpr z7_; have ze7 := beq_iff_eq.mpr z7_; clear z7_; subst z8_; have zb9 := bne_eq_false_iff_eq.mpr z9_; have ze9 := beq_iff_eq.mpr z9_; clear z9_; have zb10 := decide_eq_false z10_; clear z10_; have zb11 := bne_eq_false_iff_eq.mpr z11_; have ze11 := beq_iff_eq.mpr z11_; clear z11_
  go_enter Try.func3, Try.ntmps3
  go_wp2_with (first | ((with_reducible refine gate_callee (f := 6) rfl ?_); refine gL (some 18) Try.func6 #[.slice A0 l0.length c0, .int .i64 1048576] ?_; (with_reducible refine (laws_szEntryS.calls k _ _ l0 1048576 t1 _ ?side1 ?side2 A1_.out).mono ?_); (case side1 => exact cK (Kd.C_below HR0.out HB.out)); (case side2 => exact HC0.out); rintro e w1_ ⟨rfl, hb⟩; refine ⟨_, rfl, ?_⟩; have sz_ : w.heap.size ≤ w1_.heap.size := hb.size; have n0_ := mK (below_step (by repeat (first | exact HB.out | apply below_alloc | apply pw_below_drewN | apply below_drew1)) hb); clear HB; have HB := n0_; clear n0_; have SZ1 := Aside0.mk sz_; clear sz_ hb) | ((with_reducible refine gate_callee (f := 8) rfl ?_); refine gL (some 23) Try.func8 #[.slice A0 l0.length c0] ?_; (with_reducible refine (laws_toEntryS.calls k _ _ l0 t2 _ ?side1 ?side2 A2_.out).mono ?_); (case side1 => exact cK (Kd.C_below HR0.out HB.out)); (case side2 => exact HC0.out); rintro e w2_ ⟨v102, rfl, ho102, hb⟩; refine ⟨_, rfl, ?_⟩; have sz_ : w1_.heap.size ≤ w2_.heap.size := hb.size; have _ := mK (below_step (by repeat (first | exact HB.out | apply below_alloc | apply pw_below_drewN | apply below_drew1)) hb); have _ := mK (mineS ho102 (show _ = w1_.heap.size from rfl) (below_size (by repeat (first | exact HB.out | apply below_alloc | apply pw_below_drewN | apply below_drew1)))); clear HB; rename_i HB HO102; have SZ2 := Aside0.mk sz_; clear sz_ hb ho102; obtain ⟨A102, c102, eo102⟩ := Kd.S_slice HO102.out; subst eo102) | ((with_reducible refine gate_callee (f := 7) rfl ?_); refine gL (some 25) Try.func7 #[.slice A102 t2.length c102, .int .i64 a1] ?_; (with_reducible refine (spec_BuildTable.calls k _ _ t2 a1 t3 t4 _ ?side1 ?side2 A3_.out).mono ?_); (case side1 => exact cK (Kd.S_reads' HO102.out).2.2); (case side2 => exact (Kd.S_reads' HO102.out).2.1); rintro e w3_ ⟨v103, rfl, ho103, hb⟩; refine ⟨_, rfl, ?_⟩; have sz_ : w2_.heap.size ≤ w3_.heap.size := hb.size; have _ := mK (Kd.S_below (by (with_reducible repeat (first | apply Kd.S_alloc | apply Kd.S_drewN | apply Kd.S_drew)); exact HO102.out) hb); have _ := mK (below_step (by repeat (first | exact HB.out | apply below_alloc | apply pw_below_drewN | apply below_drew1)) hb); have _ := mK (mineR ho103 (show _ = w2_.heap.size from rfl) (below_size (by repeat (first | exact HB.out | apply below_alloc | apply pw_below_drewN | apply below_drew1)))); clear HO102 HB; rename_i HO102 HB HO103; have SZ3 := Aside0.mk sz_; clear sz_ hb ho103; obtain ⟨A103, c103, eo103⟩ := Kd.R_slice HO103.out; subst eo103) | ((with_reducible refine gate_callee (f := 8) rfl ?_); refine gL (some 29) Try.func8 #[.slice A0 l0.length c0] ?_; (with_reducible refine (laws_toEntryS.calls k _ _ l0 t5 _ ?side1 ?side2 A4_.out).mono ?_); (case side1 => exact cK (Kd.C_below HR0.out HB.out)); (case side2 => exact HC0.out); rintro e w4_ ⟨v105, rfl, ho105, hb⟩; refine ⟨_, rfl, ?_⟩; have sz_ : w3_.heap.size ≤ w4_.heap.size := hb.size; have _ := mK (Kd.S_below (by (with_reducible repeat (first | apply Kd.S_alloc | apply Kd.S_drewN | apply Kd.S_drew)); exact HO102.out) hb); have _ := mK (Kd.R_below (rK HO103.out) hb); have _ := mK (below_step (by repeat (first | exact HB.out | apply below_alloc | apply pw_below_drewN | apply below_drew1)) hb); have _ := mK (mineS ho105 (show _ = w3_.heap.size from rfl) (below_size (by repeat (first | exact HB.out | apply below_alloc | apply pw_below_drewN | apply below_drew1)))); clear HO102 HO103 HB; rename_i HO102 HO103 HB HO105; have SZ4 := Aside0.mk sz_; clear sz_ hb ho105; obtain ⟨A105, c105, eo105⟩ := Kd.S_slice HO105.out; subst eo105) | ((with_reducible refine gate_callee (f := 9) rfl ?_); refine gL (some 33) Try.func9 #[.slice A105 t5.length c105, .int .i64 a1] ?_; (with_reducible refine (impl_BuildTable.calls k _ _ t5 a1 t6 t7 _ ?side1 ?side2 A5_.out).mono ?_); (case side1 => exact cK (Kd.S_reads' HO105.out).2.2); (case side2 => exact (Kd.S_reads' HO105.out).2.1); rintro e w5_ ⟨v106, rfl, ho106, hb⟩; refine ⟨_, rfl, ?_⟩; have sz_ : w4_.heap.size ≤ w5_.heap.size := hb.size; have _ := mK (Kd.S_below (by (with_reducible repeat (first | apply Kd.S_alloc | apply Kd.S_drewN | apply Kd.S_drew)); exact HO102.out) hb); have _ := mK (Kd.R_below (rK HO103.out) hb); have _ := mK (Kd.S_below (by (with_reducible repeat (first | apply Kd.S_alloc | apply Kd.S_drewN | apply Kd.S_drew)); exact HO105.out) hb); have _ := mK (below_step (by repeat (first | exact HB.out | apply below_alloc | apply pw_below_drewN | apply below_drew1)) hb); have _ := mK (mineR ho106 (show _ = w4_.heap.size from rfl) (below_size (by repeat (first | exact HB.out | apply below_alloc | apply pw_below_drewN | apply below_drew1)))); clear HO102 HO103 HO105 HB; rename_i HO102 HO103 HO105 HB HO106; have SZ5 := Aside0.mk sz_; clear sz_ hb ho106; obtain ⟨A106, c106, eo106⟩ := Kd.R_slice HO106.out; subst eo106) | ((with_reducible refine gate_callee (f := 10) rfl ?_); refine gL (some 38) Try.func10 #[.slice A106 t6.length c106, .slice A103 t3.length c103] ?_; (with_reducible refine (laws_eqByteS.calls k _ _ t6 _ _ t3 true _ ?side1 ?side2 ?side3 ?side4 A6_.out).mono ?_); (case side1 => exact cK (Kd.R_reads' HO106.out).2.2); (case side2 => exact (Kd.R_reads' HO106.out).2.1); (case side3 => exact cK (Kd.R_reads' HO103.out).2.2); (case side4 => exact (Kd.R_reads' HO103.out).2.1); rintro e w6_ ⟨rfl, hb⟩; refine ⟨_, rfl, ?_⟩; replace hb := Drawn0.below hb; have sz_ : w5_.heap.size ≤ w6_.heap.size := hb.size; have _ := mK (Kd.S_below (by (with_reducible repeat (first | apply Kd.S_alloc | apply Kd.S_drewN | apply Kd.S_drew)); exact HO102.out) hb); have _ := mK (Kd.R_below (rK HO103.out) hb); have _ := mK (Kd.S_below (by (with_reducible repeat (first | apply Kd.S_alloc | apply Kd.S_drewN | apply Kd.S_drew)); exact HO105.out) hb); have _ := mK (Kd.R_below (rK HO106.out) hb); have _ := mK (below_step (by repeat (first | exact HB.out | apply below_alloc | apply pw_below_drewN | apply below_drew1)) hb); clear HO102 HO103 HO105 HO106 HB; rename_i HO102 HO103 HO105 HO106 HB; have SZ6 := Aside0.mk sz_; clear sz_ hb) | ((with_reducible refine gate_callee (f := 8) rfl ?_); refine gL (some 47) Try.func8 #[.slice A0 l0.length c0] ?_; (with_reducible refine (laws_toEntryS.calls k _ _ l0 t9 _ ?side1 ?side2 A7_.out).mono ?_); (case side1 => exact cK (Kd.C_below HR0.out HB.out)); (case side2 => exact HC0.out); rintro e w7_ ⟨v109, rfl, ho109, hb⟩; refine ⟨_, rfl, ?_⟩; have sz_ : w6_.heap.size ≤ w7_.heap.size := hb.size; have _ := mK (Kd.S_below (by (with_reducible repeat (first | apply Kd.S_alloc | apply Kd.S_drewN | apply Kd.S_drew)); exact HO102.out) hb); have _ := mK (Kd.R_below (rK HO103.out) hb); have _ := mK (Kd.S_below (by (with_reducible repeat (first | apply Kd.S_alloc | apply Kd.S_drewN | apply Kd.S_drew)); exact HO105.out) hb); have _ := mK (Kd.R_below (rK HO106.out) hb); have _ := mK (below_step (by repeat (first | exact HB.out | apply below_alloc | apply pw_below_drewN | apply below_drew1)) hb); have _ := mK (mineS ho109 (show _ = w6_.heap.size from rfl) (below_size (by repeat (first | exact HB.out | apply below_alloc | apply pw_below_drewN | apply below_drew1)))); clear HO102 HO103 HO105 HO106 HB; rename_i HO102 HO103 HO105 HO106 HB HO109; have SZ7 := Aside0.mk sz_; clear sz_ hb ho109; obtain ⟨A109, c109, eo109⟩ := Kd.S_slice HO109.out; subst eo109) | ((with_reducible refine gate_callee (f := 11) rfl ?_); refine gL (some 48) Try.func11 #[.slice A105 t5.length c105, .slice A109 t9.length c109] ?_; (with_reducible refine (laws_eqEntryS.calls k _ _ t5 _ _ t9 true _ ?side1 ?side2 ?side3 ?side4 A8_.out).mono ?_); (case side1 => exact cK (Kd.S_reads' HO105.out).2.2); (case side2 => exact (Kd.S_reads' HO105.out).2.1); (case side3 => exact cK (Kd.S_reads' HO109.out).2.2); (case side4 => exact (Kd.S_reads' HO109.out).2.1); rintro e w8_ ⟨rfl, hb⟩; refine ⟨_, rfl, ?_⟩; have sz_ : w7_.heap.size ≤ w8_.heap.size := hb.size; have _ := mK (Kd.S_below (by (with_reducible repeat (first | apply Kd.S_alloc | apply Kd.S_drewN | apply Kd.S_drew)); exact HO102.out) hb); have _ := mK (Kd.R_below (rK HO103.out) hb); have _ := mK (Kd.S_below (by (with_reducible repeat (first | apply Kd.S_alloc | apply Kd.S_drewN | apply Kd.S_drew)); exact HO105.out) hb); have _ := mK (Kd.R_below (rK HO106.out) hb); have _ := mK (Kd.S_below (by (with_reducible repeat (first | apply Kd.S_alloc | apply Kd.S_drewN | apply Kd.S_drew)); exact HO109.out) hb); have _ := mK (below_step (by repeat (first | exact HB.out | apply below_alloc | apply pw_below_drewN | apply below_drew1)) hb); clear HO102 HO103 HO105 HO106 HO109 HB; rename_i HO102 HO103 HO105 HO106 HO109 HB; have SZ8 := Aside0.mk sz_; clear sz_ hb) | ((with_reducible refine gate_callee (f := 12) rfl ?_); refine gL (some 52) Try.func12 #[.slice A105 t5.length c105, .int .i64 1] ?_; (with_reducible refine (laws_markEntryS.calls k (Mine w3_.heap.size w4_ (51 :: (k51).E)) _ t5 1 t11 t12 w _ ?sideB ?side1 A9_.out).mono ?_); (case sideB => exact (by repeat (first | exact HB.out | apply below_alloc | apply pw_below_drewN | apply below_drew1))); (case side1 => exact (by (with_reducible repeat (first | apply Kd.S_alloc | apply Kd.S_drewN | apply Kd.S_drew)); exact HO105.out)); rintro e w9_ ⟨rfl, hk105, hb, hkp⟩; refine ⟨_, rfl, ?_⟩; have sz_ : w8_.heap.size ≤ w9_.heap.size := hkp.1; have _ := mK (Kd.S_kept (by (with_reducible repeat (first | apply Kd.S_alloc | apply Kd.S_drewN | apply Kd.S_drew)); exact HO102.out) hkp (fun k_ h1 => (fun h2 => mine_lt h1 h2 SZ3.out))); have _ := mK (Kd.R_kept (rK HO103.out) hkp (fun k_ h1 => (fun h2 => mine_lt h1 h2 (Nat.le_refl _)))); have _ := mK (Kd.R_kept (rK HO106.out) hkp (fun k_ h1 => (fun h2 => mine_lt h2 h1 (Nat.le_refl _)))); have _ := mK (Kd.S_kept (by (with_reducible repeat (first | apply Kd.S_alloc | apply Kd.S_drewN | apply Kd.S_drew)); exact HO109.out) hkp (fun k_ h1 => (fun h2 => mine_lt h2 h1 (Nat.le_trans SZ5.out SZ6.out)))); have _ := mK (hb); clear HO102 HO103 HO106 HO109 HB; rename_i HO102 HO103 HO106 HO109 HB; clear HO105; have SZ9 := Aside0.mk sz_; clear sz_ hb hkp hk105) | (go_at_call 10; (with_reducible refine (laws_eqByteS.calls k _ _ t6 _ _ t3 true _ ?side1 ?side2 ?side3 ?side4 A10_.out).mono ?_); (case side1 => exact cK (Kd.R_reads' HO106.out).2.2); (case side2 => exact (Kd.R_reads' HO106.out).2.1); (case side3 => exact cK (Kd.R_reads' HO103.out).2.2); (case side4 => exact (Kd.R_reads' HO103.out).2.1); rintro e w10_ ⟨rfl, hb⟩; replace hb := Drawn0.below hb; have sz_ : w9_.heap.size ≤ w10_.heap.size := hb.size; have _ := mK (Kd.S_below (by (with_reducible repeat (first | apply Kd.S_alloc | apply Kd.S_drewN | apply Kd.S_drew)); exact HO102.out) hb); have _ := mK (Kd.R_below (rK HO103.out) hb); have _ := mK (Kd.R_below (rK HO106.out) hb); have _ := mK (Kd.S_below (by (with_reducible repeat (first | apply Kd.S_alloc | apply Kd.S_drewN | apply Kd.S_drew)); exact HO109.out) hb); have _ := mK (below_step (by repeat (first | exact HB.out | apply below_alloc | apply pw_below_drewN | apply below_drew1)) hb); clear HO102 HO103 HO106 HO109 HB; rename_i HO102 HO103 HO106 HO109 HB; have SZ10 := Aside0.mk sz_; clear sz_ hb) | ((with_reducible refine gate_callee (f := 13) rfl ?_); refine gL (some 68) Try.func13 #[.slice A106 t6.length c106, .int .i64 1] ?_; (with_reducible refine (laws_markByteS.calls k (Mine w4_.heap.size w5_ (5 :: ((Kd.int .u8)).E)) _ t6 1 t14 t15 w _ ?sideB ?side1 A11_.out).mono ?_); (case sideB => exact (by repeat (first | exact HB.out | apply below_alloc | apply pw_below_drewN | apply below_drew1))); (case side1 => exact (rK HO106.out)); rintro e w11_ ⟨rfl, hk106, hb, hkp⟩; refine ⟨_, rfl, ?_⟩; have sz_ : w10_.heap.size ≤ w11_.heap.size := hkp.1; have _ := mK (Kd.S_kept (by (with_reducible repeat (first | apply Kd.S_alloc | apply Kd.S_drewN | apply Kd.S_drew)); exact HO102.out) hkp (fun k_ h1 => (fun h2 => mine_lt h1 h2 (Nat.le_trans SZ3.out SZ4.out)))); have _ := mK (Kd.R_kept (rK HO103.out) hkp (fun k_ h1 => (fun h2 => mine_lt h1 h2 SZ4.out))); have _ := mK (Kd.S_kept (by (with_reducible repeat (first | apply Kd.S_alloc | apply Kd.S_drewN | apply Kd.S_drew)); exact HO109.out) hkp (fun k_ h1 => (fun h2 => mine_lt h2 h1 SZ6.out))); have _ := mK (Kd.R_mono (ok' := fun _ => True) hk106 (fun _ _ => trivial)); have _ := mK (hb); clear HO102 HO103 HO109 HO106 HB; rename_i HO102 HO103 HO109 HO106 HB; have SZ11 := Aside0.mk sz_; clear sz_ hb hkp hk106; have hl106 : t6.length = t15.length := (Kd.R_reads' HO106.out).1; rw [hl106] at HO106; (try rw [hl106]); clear hl106) | ((with_reducible refine gate_callee (f := 14) rfl ?_); refine gL (some 71) Try.func14 #[.slice A106 t15.length c106, .int .i64 1] ?_; (with_reducible refine (laws_heldByteS.calls k _ _ t15 1 t16 _ ?side1 ?side2 A12_.out).mono ?_); (case side1 => exact cK (Kd.R_reads' HO106.out).2.2); (case side2 => exact (Kd.R_reads' HO106.out).2.1); rintro e w12_ ⟨rfl, hb⟩; refine ⟨_, rfl, ?_⟩; replace hb := Drawn0.below hb; have sz_ : w11_.heap.size ≤ w12_.heap.size := hb.size; have _ := mK (Kd.S_below (by (with_reducible repeat (first | apply Kd.S_alloc | apply Kd.S_drewN | apply Kd.S_drew)); exact HO102.out) hb); have _ := mK (Kd.R_below (rK HO103.out) hb); have _ := mK (Kd.R_below (rK HO106.out) hb); have _ := mK (Kd.S_below (by (with_reducible repeat (first | apply Kd.S_alloc | apply Kd.S_drewN | apply Kd.S_drew)); exact HO109.out) hb); have _ := mK (below_step (by repeat (first | exact HB.out | apply below_alloc | apply pw_below_drewN | apply below_drew1)) hb); clear HO102 HO103 HO106 HO109 HB; rename_i HO102 HO103 HO106 HO109 HB; have SZ12 := Aside0.mk sz_; clear sz_ hb) | ((with_reducible refine gate_callee (f := 8) rfl ?_); refine gL (some 79) Try.func8 #[.slice A0 l0.length c0] ?_; (with_reducible refine (laws_toEntryS.calls k _ _ l0 t17 _ ?side1 ?side2 A13_.out).mono ?_); (case side1 => exact cK (Kd.C_below HR0.out HB.out)); (case side2 => exact HC0.out); rintro e w13_ ⟨v117, rfl, ho117, hb⟩; refine ⟨_, rfl, ?_⟩; have sz_ : w12_.heap.size ≤ w13_.heap.size := hb.size; have _ := mK (Kd.S_below (by (with_reducible repeat (first | apply Kd.S_alloc | apply Kd.S_drewN | apply Kd.S_drew)); exact HO102.out) hb); have _ := mK (Kd.R_below (rK HO103.out) hb); have _ := mK (Kd.R_below (rK HO106.out) hb); have _ := mK (Kd.S_below (by (with_reducible repeat (first | apply Kd.S_alloc | apply Kd.S_drewN | apply Kd.S_drew)); exact HO109.out) hb); have _ := mK (below_step (by repeat (first | exact HB.out | apply below_alloc | apply pw_below_drewN | apply below_drew1)) hb); have _ := mK (mineS ho117 (show _ = w12_.heap.size from rfl) (below_size (by repeat (first | exact HB.out | apply below_alloc | apply pw_below_drewN | apply below_drew1)))); clear HO102 HO103 HO106 HO109 HB; rename_i HO102 HO103 HO106 HO109 HB HO117; have SZ13 := Aside0.mk sz_; clear sz_ hb ho117; obtain ⟨A117, c117, eo117⟩ := Kd.S_slice HO117.out; subst eo117) | ((with_reducible refine gate_callee (f := 9) rfl ?_); refine gL (some 81) Try.func9 #[.slice A117 t17.length c117, .int .i64 a1] ?_; (with_reducible refine (impl_BuildTable.calls k _ _ t17 a1 t18 t19 _ ?side1 ?side2 A14_.out).mono ?_); (case side1 => exact cK (Kd.S_reads' HO117.out).2.2); (case side2 => exact (Kd.S_reads' HO117.out).2.1); rintro e w14_ ⟨v118, rfl, ho118, hb⟩; refine ⟨_, rfl, ?_⟩; have sz_ : w13_.heap.size ≤ w14_.heap.size := hb.size; have _ := mK (Kd.S_below (by (with_reducible repeat (first | apply Kd.S_alloc | apply Kd.S_drewN | apply Kd.S_drew)); exact HO102.out) hb); have _ := mK (Kd.R_below (rK HO103.out) hb); have _ := mK (Kd.R_below (rK HO106.out) hb); have _ := mK (Kd.S_below (by (with_reducible repeat (first | apply Kd.S_alloc | apply Kd.S_drewN | apply Kd.S_drew)); exact HO109.out) hb); have _ := mK (Kd.S_below (by (with_reducible repeat (first | apply Kd.S_alloc | apply Kd.S_drewN | apply Kd.S_drew)); exact HO117.out) hb); have _ := mK (below_step (by repeat (first | exact HB.out | apply below_alloc | apply pw_below_drewN | apply below_drew1)) hb); have _ := mK (mineR ho118 (show _ = w13_.heap.size from rfl) (below_size (by repeat (first | exact HB.out | apply below_alloc | apply pw_below_drewN | apply below_drew1)))); clear HO102 HO103 HO106 HO109 HO117 HB; rename_i HO102 HO103 HO106 HO109 HO117 HB HO118; have SZ14 := Aside0.mk sz_; clear sz_ hb ho118; obtain ⟨A118, c118, eo118⟩ := Kd.R_slice HO118.out; subst eo118) | ((with_reducible refine gate_callee (f := 10) rfl ?_); refine gL (some 86) Try.func10 #[.slice A118 t18.length c118, .slice A103 t3.length c103] ?_; (with_reducible refine (laws_eqByteS.calls k _ _ t18 _ _ t3 true _ ?side1 ?side2 ?side3 ?side4 A15_.out).mono ?_); (case side1 => exact cK (Kd.R_reads' HO118.out).2.2); (case side2 => exact (Kd.R_reads' HO118.out).2.1); (case side3 => exact cK (Kd.R_reads' HO103.out).2.2); (case side4 => exact (Kd.R_reads' HO103.out).2.1); rintro e w15_ ⟨rfl, hb⟩; refine ⟨_, rfl, ?_⟩; replace hb := Drawn0.below hb; have sz_ : w14_.heap.size ≤ w15_.heap.size := hb.size; have _ := mK (Kd.S_below (by (with_reducible repeat (first | apply Kd.S_alloc | apply Kd.S_drewN | apply Kd.S_drew)); exact HO102.out) hb); have _ := mK (Kd.R_below (rK HO103.out) hb); have _ := mK (Kd.R_below (rK HO106.out) hb); have _ := mK (Kd.S_below (by (with_reducible repeat (first | apply Kd.S_alloc | apply Kd.S_drewN | apply Kd.S_drew)); exact HO109.out) hb); have _ := mK (Kd.S_below (by (with_reducible repeat (first | apply Kd.S_alloc | apply Kd.S_drewN | apply Kd.S_drew)); exact HO117.out) hb); have _ := mK (Kd.R_below (rK HO118.out) hb); have _ := mK (below_step (by repeat (first | exact HB.out | apply below_alloc | apply pw_below_drewN | apply below_drew1)) hb); clear HO102 HO103 HO106 HO109 HO117 HO118 HB; rename_i HO102 HO103 HO106 HO109 HO117 HO118 HB; have SZ15 := Aside0.mk sz_; clear sz_ hb) | ((with_reducible refine gate_callee (f := 14) rfl ?_); refine gL (some 95) Try.func14 #[.slice A106 t15.length c106, .int .i64 1] ?_; (with_reducible refine (laws_heldByteS.calls k _ _ t15 1 t21 _ ?side1 ?side2 A16_.out).mono ?_); (case side1 => exact cK (Kd.R_reads' HO106.out).2.2); (case side2 => exact (Kd.R_reads' HO106.out).2.1); rintro e w16_ ⟨rfl, hb⟩; refine ⟨_, rfl, ?_⟩; replace hb := Drawn0.below hb; have sz_ : w15_.heap.size ≤ w16_.heap.size := hb.size; have _ := mK (Kd.S_below (by (with_reducible repeat (first | apply Kd.S_alloc | apply Kd.S_drewN | apply Kd.S_drew)); exact HO102.out) hb); have _ := mK (Kd.R_below (rK HO103.out) hb); have _ := mK (Kd.R_below (rK HO106.out) hb); have _ := mK (Kd.S_below (by (with_reducible repeat (first | apply Kd.S_alloc | apply Kd.S_drewN | apply Kd.S_drew)); exact HO109.out) hb); have _ := mK (Kd.S_below (by (with_reducible repeat (first | apply Kd.S_alloc | apply Kd.S_drewN | apply Kd.S_drew)); exact HO117.out) hb); have _ := mK (Kd.R_below (rK HO118.out) hb); have _ := mK (below_step (by repeat (first | exact HB.out | apply below_alloc | apply pw_below_drewN | apply below_drew1)) hb); clear HO102 HO103 HO106 HO109 HO117 HO118 HB; rename_i HO102 HO103 HO106 HO109 HO117 HO118 HB; have SZ16 := Aside0.mk sz_; clear sz_ hb))
  go_ret
  exact ⟨by first | rfl | (simp; done), (by repeat (first | exact HB.out | apply below_alloc | apply pw_below_drewN | apply below_drew1))⟩
 ·rw [if_neg hcond] at h
  cases h

/-- What the form's reading tells of a value of type 43. -/
def G43 (a : S43) : Prop := (Lit.int .i64 a.f0).wf = true ∧ (Lit.int .i64 a.f1).wf = true ∧ (Lit.int .i64 a.f2).wf = true ∧ (Lit.int .i64 a.f3).wf = true ∧ (a.f4.length ≤ maxLen ∧ ∀ x ∈ a.f4, (Lit.int .i64 x).wf = true) ∧ True
/-- What the form's reading tells of a value of type 45. -/
def G45 (a : S45) : Prop := a.f0.size ≤ maxLen ∧ (Lit.int .i64 a.f1).wf = true ∧ (Lit.int .i64 a.f2).wf = true ∧ G43 a.f3
/-- THE ONE PURE STATEMENT of laws_FnExactBuildTable. -/
def laws_FnExactBuildTable.Pure : Prop := ∀ (l0 : List (S45)) (a1 : Int), (l0.length ≤ maxLen ∧ ∀ x ∈ l0, G45 x) → (Lit.int .i64 a1).wf = true → ∃ k, laws_FnExactBuildTable.f k l0 a1 = some true

end Go.Proofs.Ytllmlnagihlokaa.PFnExactBuildTable
