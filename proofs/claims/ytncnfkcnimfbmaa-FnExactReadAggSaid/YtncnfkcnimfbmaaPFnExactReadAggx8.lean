-- Written for this claim by a program of this session: a scratch copy of the kit's print with patches of this session.
import Derived.Test.YtncnfkcnimfbmaaPFnExactReadAggx0
import Derived.Test.YtncnfkcnimfbmaaPFnExactReadAggx6
import Derived.Test.YtncnfkcnimfbmaaPFnExactReadAggx7
namespace Go.Proofs.Ytncnfkcnimfbmaa.PFnExactReadAgg
open Go.RowKit Go.Proofs.YtncnfkcnimfbmaaW.PrintWords Go.Proofs.YtncnfkcnimfbmaaW.PrintLast Go.Proofs.YtncnfkcnimfbmaaW.PrintMore
attribute [local go_sem] max2_int min2_int max_two min_two max_three min_three max_four min_four hw_string_geq hw_string_gtr hw_string_leq   -- for this text's walks alone
set_option linter.unusedVariables false
set_option linter.unusedSimpArgs false

/-! ### impl_aggBytes: function 29 -/
mutual
def impl_aggBytes.j0 : Nat → List Int → Int → Int → Int → Int → List Int → Bool → Option (List Int)
  | 0, _, _, _, _, _, _, _ => none
  | k + 1, x3, x157000, x157001, x157002, x157003, x157004, x157005 => (impl_Agg_numbers.f x157000 x157001 x157002 x157003 x157004 x157005).bind fun t161 => (impl_aggBytes.l0 k x3 t161 (t161.length : Int) 0)
def impl_aggBytes.l0 : Nat → List Int → List Int → Int → Int → Option (List Int)
  | 0, _, _, _, _ => none
  | k + 1, x3, x13, x14, x15 => if x15 < x14 then (if 0 ≤ x15 then (if x15 < (x13.length : Int) then (if (rd x13 x15) < 0 then ((impl_PutVar.f k (IntKind.u64.wrap (wrap64 ((wrap64 ((-2) * (rd x13 x15))) - 1)))).bind fun t165 => (if x3.length + t165.length < 140737488355328 then (impl_aggBytes.l0 k (x3 ++ t165) x13 x14 (wrap64 (x15 + 1))) else (none))) else ((impl_PutVar.f k (IntKind.u64.wrap (wrap64 (2 * (rd x13 x15))))).bind fun t171 => (if x3.length + t171.length < 140737488355328 then (impl_aggBytes.l0 k (x3 ++ t171) x13 x14 (wrap64 (x15 + 1))) else (none)))) else (none)) else (none)) else (some x3)
end
def impl_aggBytes.f (k : Nat) (a0_0 : Int) (a0_1 : Int) (a0_2 : Int) (a0_3 : Int) (l0_4 : List Int) (a0_5 : Bool) : Option (List Int) := (some (([0] : List Int) : List Int)).bind fun y157 => (if a0_5 = true then (if 0 < (y157.length : Int) then (impl_aggBytes.j0 k (y157.set (0 : Int).toNat 1) a0_0 a0_1 a0_2 a0_3 l0_4 a0_5) else (none)) else (impl_aggBytes.j0 k y157 a0_0 a0_1 a0_2 a0_3 l0_4 a0_5))
theorem impl_aggBytes.mono_l : ∀ k, (∀ y0 y1 y2 y3 y4 y5 y6, LeO (impl_aggBytes.j0 k y0 y1 y2 y3 y4 y5 y6) (impl_aggBytes.j0 (k + 1) y0 y1 y2 y3 y4 y5 y6)) ∧ (∀ y0 y1 y2 y3, LeO (impl_aggBytes.l0 k y0 y1 y2 y3) (impl_aggBytes.l0 (k + 1) y0 y1 y2 y3))
  | 0 => ⟨fun _ _ _ _ _ _ _ r h => by simp [impl_aggBytes.j0] at h, fun _ _ _ _ r h => by simp [impl_aggBytes.l0] at h⟩
  | k + 1 => by
    obtain ⟨ih0, ih1⟩ := impl_aggBytes.mono_l k
    refine ⟨?_, ?_⟩
    · intro y0 y1 y2 y3 y4 y5 y6
      unfold impl_aggBytes.j0
      repeat' first
      | (with_reducible exact ih0 _ _ _ _ _ _ _)
      | (with_reducible exact ih1 _ _ _ _)
      | (with_reducible exact impl_PutVar.mono _ _)
      | (with_reducible exact LeO.refl _)
      | (with_reducible exact LeO.none _)
      | (with_reducible refine LeO.ite ?_ ?_)
      | (with_reducible refine LeO.bind ?_ (fun _ => ?_))
      | exact ih0 _ _ _ _ _ _ _
      | exact ih1 _ _ _ _
      | exact impl_PutVar.mono _ _
      | exact LeO.none _
      | refine LeO.ite ?_ ?_
      | refine LeO.bind ?_ (fun _ => ?_)
    · intro y0 y1 y2 y3
      unfold impl_aggBytes.l0
      repeat' first
      | (with_reducible exact ih0 _ _ _ _ _ _ _)
      | (with_reducible exact ih1 _ _ _ _)
      | (with_reducible exact impl_PutVar.mono _ _)
      | (with_reducible exact LeO.refl _)
      | (with_reducible exact LeO.none _)
      | (with_reducible refine LeO.ite ?_ ?_)
      | (with_reducible refine LeO.bind ?_ (fun _ => ?_))
      | exact ih0 _ _ _ _ _ _ _
      | exact ih1 _ _ _ _
      | exact impl_PutVar.mono _ _
      | exact LeO.none _
      | refine LeO.ite ?_ ?_
      | refine LeO.bind ?_ (fun _ => ?_)
theorem impl_aggBytes.mono : ∀ a0 a1 a2 a3 a4 a5 k, LeO (impl_aggBytes.f k a0 a1 a2 a3 a4 a5) (impl_aggBytes.f (k + 1) a0 a1 a2 a3 a4 a5) := by
  intro a0 a1 a2 a3 a4 a5 k
  obtain ⟨ih0, ih1⟩ := impl_aggBytes.mono_l k
  unfold impl_aggBytes.f
  repeat' first
      | (with_reducible exact ih0 _ _ _ _ _ _ _)
      | (with_reducible exact ih1 _ _ _ _)
      | (with_reducible exact impl_PutVar.mono _ _)
      | (with_reducible exact LeO.refl _)
      | (with_reducible exact LeO.none _)
      | (with_reducible refine LeO.ite ?_ ?_)
      | (with_reducible refine LeO.bind ?_ (fun _ => ?_))
      | exact ih0 _ _ _ _ _ _ _
      | exact ih1 _ _ _ _
      | exact impl_PutVar.mono _ _
      | exact LeO.none _
      | refine LeO.ite ?_ ?_
      | refine LeO.bind ?_ (fun _ => ?_)
set_option maxHeartbeats 8000000 in
set_option maxRecDepth 100000 in
theorem impl_aggBytes.calls (k : Nat) (a0_0 : Int) (a0_1 : Int) (a0_2 : Int) (a0_3 : Int) (A0_4 : Option Addr) (c0_4 : Nat) (l0_4 : List Int) (a0_5 : Bool) (r : List Int) (w : World) (hr0_4 : Kd.C (Kd.int .i64) w A0_4 l0_4.length l0_4) (hc0_4 : l0_4.length ≤ c0_4) (h : impl_aggBytes.f k a0_0 a0_1 a0_2 a0_3 l0_4 a0_5 = some r) :
    Calls Try.prog 29 #[.agg #[.int .i64 a0_0, .int .i64 a0_1, .int .i64 a0_2, .int .i64 a0_3, .slice A0_4 l0_4.length c0_4, .bool a0_5]] w fun e w' => ∃ v0_ : Value, e = .returned (v0_) ∧ Kd.R (Kd.int .u8) 5 w' w.heap.size (fun _ => True) v0_ r ∧ Below w.heap.size w w' := by
  have hu26 := Try.underlying26
  have HR0_4 := Aside0.mk hr0_4
  have HC0_4 := Aside0.mk hc0_4
  clear hr0_4 hc0_4
  have HB := Aside0.mk (Below.refl w.heap.size w)
  have H : ((some (([0] : List Int) : List Int)).bind fun y157 => (if a0_5 = true then (if 0 < (y157.length : Int) then (impl_aggBytes.j0 k (y157.set (0 : Int).toNat 1) a0_0 a0_1 a0_2 a0_3 l0_4 a0_5) else (none)) else (impl_aggBytes.j0 k y157 a0_0 a0_1 a0_2 a0_3 l0_4 a0_5))) = some r := h
  clear h
  obtain ⟨y157, hy157⟩ : ∃ y_ : List Int, y_ = (([0] : List Int)) := ⟨_, rfl⟩
  replace H : (if a0_5 = true then (if 0 < (y157.length : Int) then (impl_aggBytes.j0 k (y157.set (0 : Int).toNat 1) a0_0 a0_1 a0_2 a0_3 l0_4 a0_5) else (none)) else (impl_aggBytes.j0 k y157 a0_0 a0_1 a0_2 a0_3 l0_4 a0_5)) = some r := by first | (rw [hy157]; with_reducible exact H) | (have H2_ := (Option.bind_some _ _).symm.trans H; rw [hy157]; with_reducible exact H2_) | (have H2_ := (Option.bind_some _ _).symm.trans H; with_reducible exact H2_) | with_reducible exact H | (rw [hy157]; exact H) | exact H
  have Ny157 := Aside0.mk hy157
  clear hy157
  have HC2 := Aside0.mk H
  clear H
  go_enter Try.func29, Try.ntmps29
  go_upto_if 9 with (first | ((with_reducible refine gate_dst (N := 1) rfl ?_); refine box_event ?hg (N := 1) ?hd (cs := #[.int .i64 a0_0, .int .i64 a0_1, .int .i64 a0_2, .int .i64 a0_3, .slice A0_4 l0_4.length c0_4, .bool a0_5]) (t := 26) ?hr ?_; (case hd => rfl); (case hg => rfl); (case hr => first | (go_simp; done) | (go_simp; rfl)); intro gb156 hg w3 hbox hb; have n0_ := Aside0.mk (below_step (by repeat (first | (with_reducible first | exact HB.out | apply below_alloc | apply pw_below_drewN | apply below_drew1) | exact HB.out)) hb); have n1_ := Aside0.mk (hbox); have n2_ := Aside0.mk ((by rw [hg]; exact (below_size (by repeat (first | (with_reducible first | exact HB.out | apply below_alloc | apply pw_below_drewN | apply below_drew1) | exact HB.out))) : w.heap.size ≤ gb156)); have n3_ := Aside0.mk ((by rw [hg]; exact (below_size (by repeat (first | (with_reducible first | exact HB.out | apply below_alloc | apply pw_below_drewN | apply below_drew1) | exact HB.out))) : w.heap.size ≤ gb156)); clear HB; have HB := n0_; have BK156 := n1_; have GW156 := n2_; have GE156 := n3_; clear n0_ n1_ n2_ n3_; clear hb hbox hg) | ((with_reducible refine gate_dst (N := 7) rfl ?_); refine Kd.R_lit (Kd.int .u8) _ 5 ?hg (N := 7) ?hd (xs := ([0] : List Int)) (inner := [.int .u8 0]) (ok := fun _ => True) (okp := fun _ => True) ?hr ?hp (fun _ hk => hk) trivial (Below.refl _ _) (Nat.le_refl _) (by simp) ?_; (case hd => rfl); (case hg => rfl); (case hr => first | (go_simp; done) | (go_simp; rfl)); (case hp => exact (Reps.one (show Kd.M (Kd.int .u8) _ _ _ 0 [.int .u8 0] from rfl) (Reps.none _ _))); intro v158 w4 ho5 hb hg_ hnew_; clear hg_ hnew_; (first | rw [← Ny157.out] at ho5 | (simp only [Int.reduceToNat] at ho5; rw [← Ny157.out] at ho5)); have n0_ := Aside0.mk (Kd.R_lower ho5 (below_size (by repeat (first | (with_reducible first | exact HB.out | apply below_alloc | apply pw_below_drewN | apply below_drew1 | refine below_set ?_ GE156.out) | exact HB.out)))); have n1_ := Aside0.mk (blk_below (g := gb156) (o := .cells #[.int .i64 a0_0, .int .i64 a0_1, .int .i64 a0_2, .int .i64 a0_3, .slice A0_4 l0_4.length c0_4, .bool a0_5] 26 (0, 0)) (by (with_reducible repeat (first | refine blk_drewN ?_ _ | refine blk_drew ?_ | refine blk_alloc ?_ _)); exact BK156.out) hb); have n2_ := Aside0.mk (below_step (by repeat (first | (with_reducible first | exact HB.out | apply below_alloc | apply pw_below_drewN | apply below_drew1 | refine below_set ?_ GE156.out) | exact HB.out)) hb); clear BK156; clear HB; have HO159 := n0_; have BK156 := n1_; have HB := n2_; clear n0_ n1_ n2_; clear hb ho5; have hcz6_0 : w4.cell? ⟨gb156, 0, none⟩ = some (.int .i64 a0_0) := (blk_cell BK156.out 0).trans rfl; have hcz6_1 : w4.cell? ⟨gb156, 1, none⟩ = some (.int .i64 a0_1) := (blk_cell BK156.out 1).trans rfl; have hcz6_2 : w4.cell? ⟨gb156, 2, none⟩ = some (.int .i64 a0_2) := (blk_cell BK156.out 2).trans rfl; have hcz6_3 : w4.cell? ⟨gb156, 3, none⟩ = some (.int .i64 a0_3) := (blk_cell BK156.out 3).trans rfl; have hcz6_4 : w4.cell? ⟨gb156, 4, none⟩ = some (.slice A0_4 l0_4.length c0_4) := (blk_cell BK156.out 4).trans rfl; have hcz6_5 : w4.cell? ⟨gb156, 5, none⟩ = some (.bool a0_5) := (blk_cell BK156.out 5).trans rfl; have hfz6_0 := blk_frozen BK156.out 0; have hfz6_1 := blk_frozen BK156.out 1; have hfz6_2 := blk_frozen BK156.out 2; have hfz6_3 := blk_frozen BK156.out 3; have hfz6_4 := blk_frozen BK156.out 4; have hfz6_5 := blk_frozen BK156.out 5))
  (try simp only [Act.put, List.setIfInBounds_toArray, List.set_cons_zero, List.set_cons_succ])
  go_cut [] (fun wc => ∃ (kq : Nat) (x3_1 : List Int), Aside0 (impl_aggBytes.j0 kq x3_1 a0_0 a0_1 a0_2 a0_3 l0_4 a0_5 = some r) ∧ Aside0 (kq ≤ k) ∧ Aside0 (Kd.R (Kd.int .u8) 5 wc w.heap.size (fun _ => True) v158 x3_1) ∧ Aside0 (wc.heap[gb156]? = some (.cells #[.int .i64 a0_0, .int .i64 a0_1, .int .i64 a0_2, .int .i64 a0_3, (.slice A0_4 l0_4.length c0_4), .bool a0_5] 26 (0, 0))) ∧ Aside0 (Below w.heap.size w wc))
  case first =>
    have H := HC2.out
    clear HC2
    by_cases c7 : a0_5 = true
    · subst c7
      have H1 : (if 0 < (y157.length : Int) then (impl_aggBytes.j0 k (y157.set (0 : Int).toNat 1) a0_0 a0_1 a0_2 a0_3 l0_4 true) else (none)) = some r := by rw [if_pos rfl] at H; exact H
      clear H
      have H := H1
      clear H1
      by_cases c8 : 0 < (y157.length : Int)
      · rw [if_pos c8] at H
        have c8b0 : decide (0 < (y157.length : Int)) = true := decide_eq_true c8
        have c8b1 : decide (0 < y157.length) = true := decide_eq_true (by omega)
        clear c8
        (first | rw [c8b0] | (simp only [i64_w, i32_w]; rw [c8b0]) | skip)
        obtain ⟨y160, hy160⟩ : ∃ y_ : List Int, y_ = (y157.set (0 : Int).toNat 1) := ⟨_, rfl⟩
        replace H : (impl_aggBytes.j0 k y160 a0_0 a0_1 a0_2 a0_3 l0_4 true) = some r := by first | (rw [hy160]; with_reducible exact H) | (have H2_ := (Option.bind_some _ _).symm.trans H; rw [hy160]; with_reducible exact H2_) | (have H2_ := (Option.bind_some _ _).symm.trans H; with_reducible exact H2_) | with_reducible exact H | (rw [hy160]; exact H) | exact H
        have Ny160 := Aside0.mk hy160
        clear hy160
        have H' := Aside0.mk H
        clear H
        have p9 : 0 ≤ (0 : Int) := (by omega)
        have q9 : (0 : Int) < ((y157.length : Int) : Int) := of_decide_eq_true (by first | (with_reducible assumption) | assumption)
        have qi9 : (0 < y157.length) = True := eq_true (by omega)
        obtain ⟨go9, co9, eo9, gb9, gl9, cl9, HG9⟩ := Kd.R_form HO159.out (by omega)
        (first | cases eo9 | (injection eo9 with ea_ en_ ec_; (first | subst ea_ | (injection ea_ with ea_; subst ea_)); subst ec_; clear en_))
        have GB9 := Aside0.mk gb9
        have GG9 := Aside0.mk HG9
        clear gb9 gl9 HG9
        obtain ⟨hx9_0, hf9_0⟩ := Kd.R_celln 0 HO159.out (0 : Int) p9 q9
        (try rw [show ((0 : Int)).toNat = 0 from rfl] at hx9_0)
        (try simp only [Nat.reduceMul, Nat.zero_mul, Nat.zero_add, Nat.reduceAdd] at hx9_0)
        (try rw [show ((0 : Int)).toNat = 0 from rfl] at hf9_0)
        (try simp only [Nat.reduceMul, Nat.zero_mul, Nat.zero_add, Nat.reduceAdd] at hf9_0)
        replace p9 := eq_true p9
        replace q9 := eq_true q9
        have HP10 := Kd.R_putg HO159.out (0 : Int) 1
        go_wp2_with (first | ((with_reducible refine gate_store (t := 5) (p := 11) rfl ?_); refine store_event (t := 5) (p := 11) (v := ?vo_w11) (w1 := (w4.setCell ⟨go9, (0 : Int).toNat, none⟩ (.int .u8 1))) ?hg ?ho ?hn ?hr ?_; (case ho => rfl); (case hg => rfl); (case hn => rfl); (case hr => first | (go_simp; done) | (go_simp; rfl)); intro w11 hw; have hg : w4.grownBy w11 (some go9) := (by rw [hw]; exact HP10.2); have hp_ : Kd.R (Kd.int .u8) 5 w11 w.heap.size (fun _ => True) (.slice (some ⟨go9, 0, none⟩) y157.length co9) y160 := (by rw [hw, Ny160.out]; exact HP10.1); clear HP10; have n0_ := Aside0.mk (blk_grown (g := gb156) (o := .cells #[.int .i64 a0_0, .int .i64 a0_1, .int .i64 a0_2, .int .i64 a0_3, .slice A0_4 l0_4.length c0_4, .bool true] 26 (0, 0)) (by (with_reducible repeat (first | refine blk_drewN ?_ _ | refine blk_drew ?_ | refine blk_alloc ?_ _)); exact BK156.out) hg (Kd.R_ne HO159.out BK156.out (by decide))); have n1_ := Aside0.mk (hp_); have n2_ := Aside0.mk ((by rw [hw]; exact below_set (HB.out) GB9.out : Below w.heap.size w w11)); clear BK156; clear HO159; clear HB; have BK156 := n0_; have HO159 := n1_; have HB := n2_; clear n0_ n1_ n2_; clear hg hw hp_))
        go_meet
        case rel => exact ⟨_, (y160), H', ⟨by first | omega | exact Nat.le_refl _⟩, ⟨by (with_reducible repeat (first | apply Kd.R_alloc | apply Kd.R_drewN | apply Kd.R_drew)); exact HO159.out⟩, ⟨by (with_reducible repeat (first | refine blk_drewN ?_ _ | refine blk_drew ?_ | refine blk_alloc ?_ _)); exact BK156.out⟩, ⟨by repeat (first | (with_reducible first | exact HB.out | apply below_alloc | apply pw_below_drewN | apply below_drew1 | refine below_set ?_ GE156.out) | exact HB.out)⟩⟩
      · rw [if_neg c8] at H
        exact absurd H (by simp)
    · replace c7 := Bool.eq_false_iff.mpr c7
      subst c7
      have H1 : (impl_aggBytes.j0 k y157 a0_0 a0_1 a0_2 a0_3 l0_4 false) = some r := by rw [if_neg (show ¬ (false = true) by decide)] at H; exact H
      clear H
      have H := H1
      clear H1
      have H' := Aside0.mk H
      clear H
      go_wp2
      go_meet
      case rel => exact ⟨_, (y157), H', ⟨by first | omega | exact Nat.le_refl _⟩, ⟨by (with_reducible repeat (first | apply Kd.R_alloc | apply Kd.R_drewN | apply Kd.R_drew)); exact HO159.out⟩, ⟨by (with_reducible repeat (first | refine blk_drewN ?_ _ | refine blk_drew ?_ | refine blk_alloc ?_ _)); exact BK156.out⟩, ⟨by repeat (first | (with_reducible first | exact HB.out | apply below_alloc | apply pw_below_drewN | apply below_drew1 | refine below_set ?_ GE156.out) | exact HB.out)⟩⟩
  case rest =>
    clear HC2
    try clear c2
    try clear p2
    try clear c7
    try clear c8
    try clear c8b0
    try clear c8b1
    try clear p9
    try clear q9
    try clear hx9
    try clear qi9
    try clear hf9
    try clear hcz6_0
    try clear hcz6_1
    try clear hcz6_2
    try clear hcz6_3
    try clear hcz6_4
    try clear hcz6_5
    try clear hfz6_0
    try clear hfz6_1
    try clear hfz6_2
    try clear hfz6_3
    try clear hfz6_4
    try clear hfz6_5
    try clear hx9_0
    try clear p9
    try clear q9
    obtain ⟨kq, x3_1, HA, HJ1, HO_3, BK156, HB⟩ := hcut
    cases kq with
    | zero => exact absurd HA.out (by simp [impl_aggBytes.j0])
    | succ kj1 =>
      have H := HA.out
      clear HA
      simp only [impl_aggBytes.j0] at H
      replace H := Option.bind_eq_some_iff.mp H
      obtain ⟨t161, A120, H⟩ := H
      replace H : (impl_aggBytes.l0 kj1 x3_1 t161 (t161.length : Int) 0) = some r := H
      have A12 := Aside0.mk A120
      clear A120
      have H' := Aside0.mk H
      clear H
      have hcz13_0 : wc.cell? ⟨gb156, 0, none⟩ = some (.int .i64 a0_0) := (blk_cell BK156.out 0).trans rfl
      have hcz13_1 : wc.cell? ⟨gb156, 1, none⟩ = some (.int .i64 a0_1) := (blk_cell BK156.out 1).trans rfl
      have hcz13_2 : wc.cell? ⟨gb156, 2, none⟩ = some (.int .i64 a0_2) := (blk_cell BK156.out 2).trans rfl
      have hcz13_3 : wc.cell? ⟨gb156, 3, none⟩ = some (.int .i64 a0_3) := (blk_cell BK156.out 3).trans rfl
      have hcz13_4 : wc.cell? ⟨gb156, 4, none⟩ = some (.slice A0_4 l0_4.length c0_4) := (blk_cell BK156.out 4).trans rfl
      have hcz13_5 : wc.cell? ⟨gb156, 5, none⟩ = some (.bool a0_5) := (blk_cell BK156.out 5).trans rfl
      have hfz13_0 := blk_frozen BK156.out 0
      have hfz13_1 := blk_frozen BK156.out 1
      have hfz13_2 := blk_frozen BK156.out 2
      have hfz13_3 := blk_frozen BK156.out 3
      have hfz13_4 := blk_frozen BK156.out 4
      have hfz13_5 := blk_frozen BK156.out 5
      go_wp2_with (first | ((with_reducible refine gate_callee (f := 38) rfl ?_); refine goesL_ (some 13) rfl rfl Try.func38 (by kernel_rfl) rfl #[.agg #[.int .i64 a0_0, .int .i64 a0_1, .int .i64 a0_2, .int .i64 a0_3, .slice A0_4 l0_4.length c0_4, .bool a0_5]] rfl (by (try simp only [List.map_toArray, List.map_cons, List.map_nil]); first | done | rfl | (simp only [List.length_drop, List.length_take]; rfl)) ?_; (with_reducible refine (impl_Agg_numbers.calls a0_0 a0_1 a0_2 a0_3 _ _ l0_4 a0_5 t161 _ ?side1 ?side2 A12.out).mono ?_); (case side1 => repeat (first | exact (Kd.C_below HR0_4.out HB.out) | (with_reducible refine Kd.C_alloc ?_ _) | (with_reducible refine Kd.C_drewN ?_ _) | (with_reducible refine Kd.C_drew ?_))); (case side2 => exact HC0_4.out); rintro e w14 ⟨v162, rfl, ho0, hb⟩; refine ⟨_, rfl, ?_⟩; have n0_ := Aside0.mk (Kd.R_below (by (with_reducible repeat (first | apply Kd.R_alloc | apply Kd.R_drewN | apply Kd.R_drew)); exact HO_3.out) hb); have n1_ := Aside0.mk (Kd.R_lower ho0 (below_size (by repeat (first | (with_reducible first | exact HB.out | apply below_alloc | apply pw_below_drewN | apply below_drew1 | refine below_set ?_ GE156.out) | exact HB.out)))); have n2_ := Aside0.mk (blk_below (g := gb156) (o := .cells #[.int .i64 a0_0, .int .i64 a0_1, .int .i64 a0_2, .int .i64 a0_3, .slice A0_4 l0_4.length c0_4, .bool a0_5] 26 (0, 0)) (by (with_reducible repeat (first | refine blk_drewN ?_ _ | refine blk_drew ?_ | refine blk_alloc ?_ _)); exact BK156.out) hb); have n3_ := Aside0.mk (below_step (by repeat (first | (with_reducible first | exact HB.out | apply below_alloc | apply pw_below_drewN | apply below_drew1 | refine below_set ?_ GE156.out) | exact HB.out)) hb); clear HO_3; clear BK156; clear HB; have HO_3 := n0_; have HO163 := n1_; have BK156 := n2_; have HB := n3_; clear n0_ n1_ n2_ n3_; (try clear hb); (try clear hb2); (try clear hk); (try clear hi); (try clear ho0); obtain ⟨Ao15, co15, eo15⟩ := Kd.R_slice HO163.out; subst eo15))
      go_loopg [3, 15] kj1 (fun kq v3 v15 w' => ∃ (x3_2 : List Int) (x15_2 : Int), v15 = .int .i64 x15_2 ∧ Aside0 (impl_aggBytes.l0 kq x3_2 t161 (t161.length : Int) x15_2 = some r) ∧ Aside0 (kq ≤ kj1) ∧ Aside0 (Kd.R (Kd.int .u8) 5 w' w.heap.size (fun _ => True) v3 x3_2) ∧ Aside0 (Kd.R (Kd.int .i64) 3 w' w.heap.size (fun _ => True) (.slice Ao15 t161.length co15) t161) ∧ Aside0 (w'.heap[gb156]? = some (.cells #[.int .i64 a0_0, .int .i64 a0_1, .int .i64 a0_2, .int .i64 a0_3, (.slice A0_4 l0_4.length c0_4), .bool a0_5] 26 (0, 0))) ∧ Aside0 (Below w.heap.size w w'))
      case atStart => exact ⟨(x3_1), (0), (by first | rfl | (simp; done) | (simp [*]; done)), H', ⟨Nat.le_refl _⟩, ⟨by (with_reducible repeat (first | apply Kd.R_alloc | apply Kd.R_drewN | apply Kd.R_drew)); exact HO_3.out⟩, ⟨by (with_reducible repeat (first | apply Kd.R_alloc | apply Kd.R_drewN | apply Kd.R_drew)); exact HO163.out⟩, ⟨by (with_reducible repeat (first | refine blk_drewN ?_ _ | refine blk_drew ?_ | refine blk_alloc ?_ _)); exact BK156.out⟩, ⟨by repeat (first | (with_reducible first | exact HB.out | apply below_alloc | apply pw_below_drewN | apply below_drew1 | refine below_set ?_ GE156.out) | exact HB.out)⟩⟩
      case round =>
        clear H'
        try clear c2
        try clear p2
        try clear c3
        try clear c7
        try clear c8
        try clear c8b0
        try clear c8b1
        try clear p9
        try clear q9
        try clear hx9
        try clear qi9
        try clear hf9
        try clear hcz13_0
        try clear hcz13_1
        try clear hcz13_2
        try clear hcz13_3
        try clear hcz13_4
        try clear hcz13_5
        try clear hcz6_0
        try clear hcz6_1
        try clear hcz6_2
        try clear hcz6_3
        try clear hcz6_4
        try clear hcz6_5
        try clear hfz13_0
        try clear hfz13_1
        try clear hfz13_2
        try clear hfz13_3
        try clear hfz13_4
        try clear hfz13_5
        try clear hfz6_0
        try clear hfz6_1
        try clear hfz6_2
        try clear hfz6_3
        try clear hfz6_4
        try clear hfz6_5
        try clear hx9_0
        try clear p2
        try clear p9
        try clear q9
        obtain ⟨x3_2, x15_2, rfl, HA, HK2, HO_3, HO_13, BK156, HB⟩ := hrel
        cases gk with
        | zero => exact absurd HA.out (by simp [impl_aggBytes.l0])
        | succ k2 =>
          have H := HA.out
          clear HA
          simp only [impl_aggBytes.l0] at H
          by_cases c16 : x15_2 < (t161.length : Int)
          · rw [if_pos c16] at H
            have c16b0 : decide (x15_2 < (t161.length : Int)) = true := decide_eq_true c16
            clear c16
            by_cases c17 : 0 ≤ x15_2
            · rw [if_pos c17] at H
              have c17b0 : decide (0 ≤ x15_2) = true := decide_eq_true c17
              clear c17
              by_cases c18 : x15_2 < (t161.length : Int)
              · rw [if_pos c18] at H
                have c18b0 : decide (x15_2 < (t161.length : Int)) = true := decide_eq_true c18
                clear c18
                by_cases c19 : (rd t161 x15_2) < 0
                · rw [if_pos c19] at H
                  have c19b0 : decide ((rd t161 x15_2) < 0) = true := decide_eq_true c19
                  clear c19
                  replace H := Option.bind_eq_some_iff.mp H
                  obtain ⟨t165, A200, H⟩ := H
                  replace H : (if x3_2.length + t165.length < 140737488355328 then (impl_aggBytes.l0 k2 (x3_2 ++ t165) t161 (t161.length : Int) (wrap64 (x15_2 + 1))) else (none)) = some r := H
                  have A20 := Aside0.mk A200
                  clear A200
                  by_cases c21 : x3_2.length + t165.length < 140737488355328
                  · rw [if_pos c21] at H
                    have LMc21 := Aside0.mk c21
                    clear c21
                    obtain ⟨y168, hy168⟩ : ∃ y_ : List Int, y_ = (x3_2 ++ t165) := ⟨_, rfl⟩
                    replace H : (impl_aggBytes.l0 k2 y168 t161 (t161.length : Int) (wrap64 (x15_2 + 1))) = some r := by first | (rw [hy168]; with_reducible exact H) | (have H2_ := (Option.bind_some _ _).symm.trans H; rw [hy168]; with_reducible exact H2_) | (have H2_ := (Option.bind_some _ _).symm.trans H; with_reducible exact H2_) | with_reducible exact H | (rw [hy168]; exact H) | exact H
                    have Ny168 := Aside0.mk hy168
                    clear hy168
                    have H' := Aside0.mk H
                    clear H
                    have p164 : 0 ≤ (x15_2 : Int) := of_decide_eq_true (by first | (with_reducible assumption) | assumption)
                    have q164 : x15_2 < (t161.length : Int) := of_decide_eq_true (by first | (with_reducible assumption) | assumption)
                    obtain ⟨ad164, e164, hx164_0⟩ := Kd.at_int (Kd.R_reads' HO_13.out).2.2 x15_2 p164 q164
                    cases e164
                    replace p164 := eq_true p164
                    replace q164 := eq_true q164
                    go_wp2_with (first | ((with_reducible refine gate_callee (f := 37) rfl ?_); refine goesL_ (some 29) rfl rfl Try.func37 (by kernel_rfl) rfl #[.int .u64 (IntKind.u64.wrap (wrap64 ((wrap64 ((-2) * (rd t161 x15_2))) - 1)))] rfl (by (try simp only [List.map_toArray, List.map_cons, List.map_nil]); first | done | rfl | (simp only [List.length_drop, List.length_take]; rfl)) ?_; (with_reducible refine (impl_PutVar.calls k2 (IntKind.u64.wrap (wrap64 ((wrap64 ((-2) * (rd t161 x15_2))) - 1))) t165 _ A20.out).mono ?_); rintro e w22 ⟨v166, rfl, ho0, hb⟩; refine ⟨_, rfl, ?_⟩; have n0_ := Aside0.mk (Kd.R_elder' (by (with_reducible repeat (first | apply Kd.R_alloc | apply Kd.R_drewN | apply Kd.R_drew)); exact HO_3.out) (Kd.R_base ho0) hb); have n1_ := Aside0.mk (Kd.R_below (by (with_reducible repeat (first | apply Kd.R_alloc | apply Kd.R_drewN | apply Kd.R_drew)); exact HO_13.out) hb); have n2_ := Aside0.mk (Kd.R_lower (Kd.R_new' ho0 (Kd.R_lt (by (with_reducible repeat (first | apply Kd.R_alloc | apply Kd.R_drewN | apply Kd.R_drew)); exact HO_3.out))) (below_size (by repeat (first | (with_reducible first | exact HB.out | apply below_alloc | apply pw_below_drewN | apply below_drew1 | refine below_set ?_ GE156.out) | exact HB.out)))); have n3_ := Aside0.mk (blk_below (g := gb156) (o := .cells #[.int .i64 a0_0, .int .i64 a0_1, .int .i64 a0_2, .int .i64 a0_3, .slice A0_4 l0_4.length c0_4, .bool a0_5] 26 (0, 0)) (by (with_reducible repeat (first | refine blk_drewN ?_ _ | refine blk_drew ?_ | refine blk_alloc ?_ _)); exact BK156.out) hb); have n4_ := Aside0.mk (below_step (by repeat (first | (with_reducible first | exact HB.out | apply below_alloc | apply pw_below_drewN | apply below_drew1 | refine below_set ?_ GE156.out) | exact HB.out)) hb); clear HO_3; clear HO_13; clear BK156; clear HB; have HO_3 := n0_; have HO_13 := n1_; have HO167 := n2_; have BK156 := n3_; have HB := n4_; clear n0_ n1_ n2_ n3_ n4_; (try clear hb); (try clear hb2); (try clear hk); (try clear hi); (try clear ho0); obtain ⟨Ao24, co24, eo24⟩ := Kd.R_slice HO167.out; subst eo24) | ((with_reducible refine gate_builtin (b := .append) (xs := #[.tmp 26, .tmp 29]) rfl ?_); at_builtin; refine Kd.R_append_rows (Kd.int .u8) (w0 := w) w.heap.size rfl (.tmp 26) (.tmp 29) 33 5 (.int .u8 0) 1 rfl Try.underlying33 info5 rfl (by decide) (by omega) u3 x3_2 t165 _ _ _ (fun k_ => some k_ ≠ (.slice Ao24 t165.length co24 : Value).ownBlock) (fun _ => False) rfl rfl ?aO ?aR (fun _ _ h => h) (fun _ h => h.elim) ?aF ?aB ?aS ?aL ?_; (case aR => repeat (first | exact (Kd.R_reads' HO167.out).2.2 | (with_reducible refine Kd.C_alloc ?_ _) | (with_reducible refine Kd.C_drewN ?_ _) | (with_reducible refine Kd.C_drew ?_))); (case aB => exact (by repeat (first | (with_reducible first | exact HB.out | apply below_alloc | apply pw_below_drewN | apply below_drew1 | refine below_set ?_ GE156.out) | exact HB.out))); (case aF => exact (fun k_ hk => Kd.fresh' (Kd.R_lt (by (with_reducible repeat (first | apply Kd.R_alloc | apply Kd.R_drewN | apply Kd.R_drew)); exact HO167.out)) k_ hk)); (case aO => exact (by (with_reducible repeat (first | apply Kd.R_alloc | apply Kd.R_drewN | apply Kd.R_drew)); exact Kd.R_mono HO_3.out (fun _ hk => hk.2))); (case aS => exact (below_size (by repeat (first | (with_reducible first | exact HB.out | apply below_alloc | apply pw_below_drewN | apply below_drew1 | refine below_set ?_ GE156.out) | exact HB.out)))); (case aL => have := LMc21.out; omega); intro v169 w23 ho hb hg hat; rw [← Ny168.out] at ho; have n0_ := Aside0.mk (Kd.R_over' (by (with_reducible repeat (first | apply Kd.R_alloc | apply Kd.R_drewN | apply Kd.R_drew)); exact HO_13.out) (Kd.R_typed (by (with_reducible repeat (first | apply Kd.R_alloc | apply Kd.R_drewN | apply Kd.R_drew)); exact HO_3.out)) (by decide) hg); have n1_ := Aside0.mk (blk_grown (g := gb156) (o := .cells #[.int .i64 a0_0, .int .i64 a0_1, .int .i64 a0_2, .int .i64 a0_3, .slice A0_4 l0_4.length c0_4, .bool a0_5] 26 (0, 0)) (by (with_reducible repeat (first | refine blk_drewN ?_ _ | refine blk_drew ?_ | refine blk_alloc ?_ _)); exact BK156.out) hg (Kd.R_ne HO_3.out BK156.out (by decide))); have n2_ := Aside0.mk (Kd.R_after (ok := (fun _ => True)) (by (with_reducible repeat (first | apply Kd.R_alloc | apply Kd.R_drewN | apply Kd.R_drew)); exact HO167.out) hg hat); have n3_ := Aside0.mk (hb); have n4_ := Aside0.mk (ho); clear HO_13; clear BK156; clear HO167; clear HB; clear HO_3; have HO_13 := n0_; have BK156 := n1_; have HO167 := n2_; have HB := n3_; have HO170 := n4_; clear n0_ n1_ n2_ n3_ n4_; clear ho hb hg hat))
                    go_roundg k2
                    case measure => have := HJ1.out; have := HK2.out; omega
                    case rel => exact ⟨(y168), (wrap64 (x15_2 + 1)), (by first | rfl | (simp; done) | (simp [*]; done)), H', ⟨by have := HJ1.out; have := HK2.out; omega⟩, ⟨by (with_reducible repeat (first | apply Kd.R_alloc | apply Kd.R_drewN | apply Kd.R_drew)); exact Kd.R_mono HO170.out (fun _ hk => trivial)⟩, ⟨by (with_reducible repeat (first | apply Kd.R_alloc | apply Kd.R_drewN | apply Kd.R_drew)); exact HO_13.out⟩, ⟨by (with_reducible repeat (first | refine blk_drewN ?_ _ | refine blk_drew ?_ | refine blk_alloc ?_ _)); exact BK156.out⟩, ⟨by repeat (first | (with_reducible first | exact HB.out | apply below_alloc | apply pw_below_drewN | apply below_drew1 | refine below_set ?_ GE156.out) | exact HB.out)⟩⟩
                  · rw [if_neg c21] at H
                    exact absurd H (by simp)
                · rw [if_neg c19] at H
                  have c19b0 : decide ((rd t161 x15_2) < 0) = false := decide_eq_false c19
                  clear c19
                  replace H := Option.bind_eq_some_iff.mp H
                  obtain ⟨t171, A250, H⟩ := H
                  replace H : (if x3_2.length + t171.length < 140737488355328 then (impl_aggBytes.l0 k2 (x3_2 ++ t171) t161 (t161.length : Int) (wrap64 (x15_2 + 1))) else (none)) = some r := H
                  have A25 := Aside0.mk A250
                  clear A250
                  by_cases c26 : x3_2.length + t171.length < 140737488355328
                  · rw [if_pos c26] at H
                    have LMc26 := Aside0.mk c26
                    clear c26
                    obtain ⟨y174, hy174⟩ : ∃ y_ : List Int, y_ = (x3_2 ++ t171) := ⟨_, rfl⟩
                    replace H : (impl_aggBytes.l0 k2 y174 t161 (t161.length : Int) (wrap64 (x15_2 + 1))) = some r := by first | (rw [hy174]; with_reducible exact H) | (have H2_ := (Option.bind_some _ _).symm.trans H; rw [hy174]; with_reducible exact H2_) | (have H2_ := (Option.bind_some _ _).symm.trans H; with_reducible exact H2_) | with_reducible exact H | (rw [hy174]; exact H) | exact H
                    have Ny174 := Aside0.mk hy174
                    clear hy174
                    have H' := Aside0.mk H
                    clear H
                    have p164 : 0 ≤ (x15_2 : Int) := of_decide_eq_true (by first | (with_reducible assumption) | assumption)
                    have q164 : x15_2 < (t161.length : Int) := of_decide_eq_true (by first | (with_reducible assumption) | assumption)
                    obtain ⟨ad164, e164, hx164_0⟩ := Kd.at_int (Kd.R_reads' HO_13.out).2.2 x15_2 p164 q164
                    cases e164
                    replace p164 := eq_true p164
                    replace q164 := eq_true q164
                    go_wp2_with (first | ((with_reducible refine gate_callee (f := 37) rfl ?_); refine goesL_ (some 29) rfl rfl Try.func37 (by kernel_rfl) rfl #[.int .u64 (IntKind.u64.wrap (wrap64 (2 * (rd t161 x15_2))))] rfl (by (try simp only [List.map_toArray, List.map_cons, List.map_nil]); first | done | rfl | (simp only [List.length_drop, List.length_take]; rfl)) ?_; (with_reducible refine (impl_PutVar.calls k2 (IntKind.u64.wrap (wrap64 (2 * (rd t161 x15_2)))) t171 _ A25.out).mono ?_); rintro e w27 ⟨v172, rfl, ho0, hb⟩; refine ⟨_, rfl, ?_⟩; have n0_ := Aside0.mk (Kd.R_elder' (by (with_reducible repeat (first | apply Kd.R_alloc | apply Kd.R_drewN | apply Kd.R_drew)); exact HO_3.out) (Kd.R_base ho0) hb); have n1_ := Aside0.mk (Kd.R_below (by (with_reducible repeat (first | apply Kd.R_alloc | apply Kd.R_drewN | apply Kd.R_drew)); exact HO_13.out) hb); have n2_ := Aside0.mk (Kd.R_lower (Kd.R_new' ho0 (Kd.R_lt (by (with_reducible repeat (first | apply Kd.R_alloc | apply Kd.R_drewN | apply Kd.R_drew)); exact HO_3.out))) (below_size (by repeat (first | (with_reducible first | exact HB.out | apply below_alloc | apply pw_below_drewN | apply below_drew1 | refine below_set ?_ GE156.out) | exact HB.out)))); have n3_ := Aside0.mk (blk_below (g := gb156) (o := .cells #[.int .i64 a0_0, .int .i64 a0_1, .int .i64 a0_2, .int .i64 a0_3, .slice A0_4 l0_4.length c0_4, .bool a0_5] 26 (0, 0)) (by (with_reducible repeat (first | refine blk_drewN ?_ _ | refine blk_drew ?_ | refine blk_alloc ?_ _)); exact BK156.out) hb); have n4_ := Aside0.mk (below_step (by repeat (first | (with_reducible first | exact HB.out | apply below_alloc | apply pw_below_drewN | apply below_drew1 | refine below_set ?_ GE156.out) | exact HB.out)) hb); clear HO_3; clear HO_13; clear BK156; clear HB; have HO_3 := n0_; have HO_13 := n1_; have HO173 := n2_; have BK156 := n3_; have HB := n4_; clear n0_ n1_ n2_ n3_ n4_; (try clear hb); (try clear hb2); (try clear hk); (try clear hi); (try clear ho0); obtain ⟨Ao29, co29, eo29⟩ := Kd.R_slice HO173.out; subst eo29) | ((with_reducible refine gate_builtin (b := .append) (xs := #[.tmp 26, .tmp 29]) rfl ?_); at_builtin; refine Kd.R_append_rows (Kd.int .u8) (w0 := w) w.heap.size rfl (.tmp 26) (.tmp 29) 33 5 (.int .u8 0) 1 rfl Try.underlying33 info5 rfl (by decide) (by omega) u3 x3_2 t171 _ _ _ (fun k_ => some k_ ≠ (.slice Ao29 t171.length co29 : Value).ownBlock) (fun _ => False) rfl rfl ?aO ?aR (fun _ _ h => h) (fun _ h => h.elim) ?aF ?aB ?aS ?aL ?_; (case aR => repeat (first | exact (Kd.R_reads' HO173.out).2.2 | (with_reducible refine Kd.C_alloc ?_ _) | (with_reducible refine Kd.C_drewN ?_ _) | (with_reducible refine Kd.C_drew ?_))); (case aB => exact (by repeat (first | (with_reducible first | exact HB.out | apply below_alloc | apply pw_below_drewN | apply below_drew1 | refine below_set ?_ GE156.out) | exact HB.out))); (case aF => exact (fun k_ hk => Kd.fresh' (Kd.R_lt (by (with_reducible repeat (first | apply Kd.R_alloc | apply Kd.R_drewN | apply Kd.R_drew)); exact HO173.out)) k_ hk)); (case aO => exact (by (with_reducible repeat (first | apply Kd.R_alloc | apply Kd.R_drewN | apply Kd.R_drew)); exact Kd.R_mono HO_3.out (fun _ hk => hk.2))); (case aS => exact (below_size (by repeat (first | (with_reducible first | exact HB.out | apply below_alloc | apply pw_below_drewN | apply below_drew1 | refine below_set ?_ GE156.out) | exact HB.out)))); (case aL => have := LMc26.out; omega); intro v175 w28 ho hb hg hat; rw [← Ny174.out] at ho; have n0_ := Aside0.mk (Kd.R_over' (by (with_reducible repeat (first | apply Kd.R_alloc | apply Kd.R_drewN | apply Kd.R_drew)); exact HO_13.out) (Kd.R_typed (by (with_reducible repeat (first | apply Kd.R_alloc | apply Kd.R_drewN | apply Kd.R_drew)); exact HO_3.out)) (by decide) hg); have n1_ := Aside0.mk (blk_grown (g := gb156) (o := .cells #[.int .i64 a0_0, .int .i64 a0_1, .int .i64 a0_2, .int .i64 a0_3, .slice A0_4 l0_4.length c0_4, .bool a0_5] 26 (0, 0)) (by (with_reducible repeat (first | refine blk_drewN ?_ _ | refine blk_drew ?_ | refine blk_alloc ?_ _)); exact BK156.out) hg (Kd.R_ne HO_3.out BK156.out (by decide))); have n2_ := Aside0.mk (Kd.R_after (ok := (fun _ => True)) (by (with_reducible repeat (first | apply Kd.R_alloc | apply Kd.R_drewN | apply Kd.R_drew)); exact HO173.out) hg hat); have n3_ := Aside0.mk (hb); have n4_ := Aside0.mk (ho); clear HO_13; clear BK156; clear HO173; clear HB; clear HO_3; have HO_13 := n0_; have BK156 := n1_; have HO173 := n2_; have HB := n3_; have HO176 := n4_; clear n0_ n1_ n2_ n3_ n4_; clear ho hb hg hat))
                    go_roundg k2
                    case measure => have := HJ1.out; have := HK2.out; omega
                    case rel => exact ⟨(y174), (wrap64 (x15_2 + 1)), (by first | rfl | (simp; done) | (simp [*]; done)), H', ⟨by have := HJ1.out; have := HK2.out; omega⟩, ⟨by (with_reducible repeat (first | apply Kd.R_alloc | apply Kd.R_drewN | apply Kd.R_drew)); exact Kd.R_mono HO176.out (fun _ hk => trivial)⟩, ⟨by (with_reducible repeat (first | apply Kd.R_alloc | apply Kd.R_drewN | apply Kd.R_drew)); exact HO_13.out⟩, ⟨by (with_reducible repeat (first | refine blk_drewN ?_ _ | refine blk_drew ?_ | refine blk_alloc ?_ _)); exact BK156.out⟩, ⟨by repeat (first | (with_reducible first | exact HB.out | apply below_alloc | apply pw_below_drewN | apply below_drew1 | refine below_set ?_ GE156.out) | exact HB.out)⟩⟩
                  · rw [if_neg c26] at H
                    exact absurd H (by simp)
              · rw [if_neg c18] at H
                exact absurd H (by simp)
            · rw [if_neg c17] at H
              exact absurd H (by simp)
          · rw [if_neg c16] at H
            have c16b0 : decide (x15_2 < (t161.length : Int)) = false := decide_eq_false c16
            clear c16
            obtain rfl := Option.some.inj H
            go_wp2
            go_ret
            exact ⟨_, by first | rfl | (simp [errW_none, errW_some] <;> rfl) | (simp [*, errW_none, errW_some] <;> rfl), by (with_reducible repeat (first | apply Kd.R_alloc | apply Kd.R_drewN | apply Kd.R_drew)); exact HO_3.out, by repeat (first | (with_reducible first | exact HB.out | apply below_alloc | apply pw_below_drewN | apply below_drew1 | refine below_set ?_ GE156.out) | exact HB.out)⟩

/-! ### impl_ReadAgg: function 14, by hand -/
/-- a number out of its code -/
def impl_ReadAgg.zig (x : Int) : Int := if (bits BinOp.and IntKind.u64 x 1 == 1) = true then wrap64 (wrap64 (-(wrap64 (x / 2))) - 1) else wrap64 (x / 2)
def impl_ReadAgg.l (k : Nat) (l0 : List Int) : Nat → List Int → Int → Option (Option (List Int))
  | 0, acc, _ => some (some acc)
  | n + 1, acc, at_ => (impl_ReadVar.f k l0 at_).bind fun p => if p.2.2 = true then impl_ReadAgg.l k l0 n (acc ++ [impl_ReadAgg.zig p.1]) p.2.1 else some none
def impl_ReadAgg.g (k : Nat) (l0 L : List Int) : Option (Int × Int × Int × Int × List Int × Bool × Bool) :=
  (impl_GoodAgg.f k (rd L 0) (rd L 1) (rd L 2) (rd L 3) (L.drop 4) (rd l0 0 == 1)).bind fun g => if g = true then (impl_aggBytes.f k (rd L 0) (rd L 1) (rd L 2) (rd L 3) (L.drop 4) (rd l0 0 == 1)).bind fun b => (bytes_Equal.f b l0).bind fun e => if e = true then some (rd L 0, rd L 1, rd L 2, rd L 3, L.drop 4, (rd l0 0 == 1), true) else some (0, 0, 0, 0, [], false, false) else some (0, 0, 0, 0, [], false, false)
def impl_ReadAgg.f (k : Nat) (l0 : List Int) : Option (Int × Int × Int × Int × List Int × Bool × Bool) :=
  if l0.length = 0 then some (0, 0, 0, 0, [], false, false) else (impl_ReadAgg.l k l0 12 [] 1).bind fun o => o.elim (some (0, 0, 0, 0, [], false, false)) (impl_ReadAgg.g k l0)
theorem impl_ReadAgg.mono_l (k : Nat) (l0 : List Int) : ∀ (n : Nat) (acc : List Int) (a : Int), LeO (impl_ReadAgg.l k l0 n acc a) (impl_ReadAgg.l (k + 1) l0 n acc a)
  | 0, acc, a => LeO.refl _
  | n + 1, acc, a => LeO.bind (impl_ReadVar.mono _ _ _) (fun p => LeO.ite (impl_ReadAgg.mono_l k l0 n _ _) (LeO.refl _))
theorem impl_ReadAgg.mono : ∀ a0 k, LeO (impl_ReadAgg.f k a0) (impl_ReadAgg.f (k + 1) a0) := by
  intro a0 k
  unfold impl_ReadAgg.f
  refine LeO.ite (LeO.refl _) (LeO.bind (impl_ReadAgg.mono_l _ _ _ _ _) (fun o => ?_))
  cases o with
  | none => exact LeO.refl _
  | some L =>
    show LeO (impl_ReadAgg.g k a0 L) (impl_ReadAgg.g (k + 1) a0 L)
    unfold impl_ReadAgg.g
    exact LeO.bind (impl_GoodAgg.mono _ _ _ _ _ _ _) (fun g => LeO.ite (LeO.bind (impl_aggBytes.mono _ _ _ _ _ _ _) (fun _ => LeO.refl _)) (LeO.refl _))
/-- what the last region reads -/
abbrev impl_ReadAgg.Ce (go : Nat) (bd : Addr) (acc l0 : List Int) (V : World) : Prop := V.cell? ⟨go, 0, none⟩ = some (.int .i64 (rd acc 0)) ∧ V.cell? ⟨go, 1, none⟩ = some (.int .i64 (rd acc 1)) ∧ V.cell? ⟨go, 2, none⟩ = some (.int .i64 (rd acc 2)) ∧ V.cell? ⟨go, 3, none⟩ = some (.int .i64 (rd acc 3)) ∧ V.cell? bd = some (.int .u8 (rd l0 0))
/-- what is so in the rounds -/
structure impl_ReadAgg.St (w0 W : World) (g2 : Nat) (v : Value) (l : List Int) : Prop where
  br : W.heap[g2]? = some (.cells #[.int .i64 0, .int .i64 0, .int .i64 0, .int .i64 0, .slice none 0 0, .bool false] 26 (0, 0))
  row : Kd.R (Kd.int .i64) 3 W w0.heap.size (fun _ => True) v l
  bel : Below w0.heap.size w0 W
section
variable {w0 W V : World} {g2 : Nat} {v : Value} {l : List Int}
theorem impl_ReadAgg.St.drew (h : impl_ReadAgg.St w0 W g2 v l) : impl_ReadAgg.St w0 W.drew g2 v l := ⟨h.br, Kd.R_drew h.row, below_drew1 h.bel⟩
theorem impl_ReadAgg.St.drewN (h : impl_ReadAgg.St w0 W g2 v l) (n : Nat) : impl_ReadAgg.St w0 (W.drewN n) g2 v l := ⟨h.br, Kd.R_drewN h.row n, pw_below_drewN h.bel n⟩
theorem impl_ReadAgg.St.below (h : impl_ReadAgg.St w0 W g2 v l) (hb : Below W.heap.size W V) : impl_ReadAgg.St w0 V g2 v l := ⟨blk_below h.br hb, Kd.R_below h.row hb, below_step h.bel hb⟩
end
/-- what is so behind the rounds -/
structure impl_ReadAgg.Fi (w0 W : World) (g2 g10 : Nat) (cs : Array Value) (v : Value) (D : List Int) : Prop where
  br : W.heap[g2]? = some (.cells #[.int .i64 0, .int .i64 0, .int .i64 0, .int .i64 0, .slice none 0 0, .bool false] 26 (0, 0))
  bx : W.heap[g10]? = some (.cells cs 26 (0, 0))
  q : Kd.Q (Kd.int .i64) 3 W w0.heap.size (fun _ => True) v D
  bel : Below w0.heap.size w0 W
section
variable {w0 W V : World} {g2 g10 : Nat} {cs : Array Value} {v : Value} {D : List Int}
theorem impl_ReadAgg.Fi.drew (h : impl_ReadAgg.Fi w0 W g2 g10 cs v D) : impl_ReadAgg.Fi w0 W.drew g2 g10 cs v D := ⟨h.br, h.bx, Kd.Q_drew h.q, below_drew1 h.bel⟩
theorem impl_ReadAgg.Fi.drewN (h : impl_ReadAgg.Fi w0 W g2 g10 cs v D) (n : Nat) : impl_ReadAgg.Fi w0 (W.drewN n) g2 g10 cs v D := ⟨h.br, h.bx, Kd.Q_drewN h.q n, pw_below_drewN h.bel n⟩
theorem impl_ReadAgg.Fi.below (h : impl_ReadAgg.Fi w0 W g2 g10 cs v D) (hb : Below W.heap.size W V) : impl_ReadAgg.Fi w0 V g2 g10 cs v D := ⟨blk_below h.br hb, blk_below h.bx hb, Kd.Q_below h.q hb, below_step h.bel hb⟩
end
set_option maxHeartbeats 8000000 in
set_option maxRecDepth 100000 in
theorem impl_ReadAgg.calls (k : Nat) (A0 : Option Addr) (c0 : Nat) (l0 : List Int) (r1 : Int) (r2 : Int) (r3 : Int) (r4 : Int) (r5 : List Int) (r6 : Bool) (r7 : Bool) (w : World) (hr0 : Kd.C (Kd.int .u8) w A0 l0.length l0) (hc0 : l0.length ≤ c0) (h : impl_ReadAgg.f k l0 = some (r1, r2, r3, r4, r5, r6, r7)) :
    Calls Try.prog 14 #[.slice A0 l0.length c0] w fun e w' => ∃ v4_ : Value, e = .returned (.tuple #[.agg #[.int .i64 r1, .int .i64 r2, .int .i64 r3, .int .i64 r4, v4_, .bool r6], .bool r7]) ∧ Kd.Q (Kd.int .i64) 3 w' w.heap.size (fun _ => True) v4_ r5 ∧ Below w.heap.size w w' := by
  have hu26 := Try.underlying26
  have HR0 := Aside0.mk hr0
  have HC0 := Aside0.mk hc0
  have HB := Aside0.mk (Below.refl w.heap.size w)
  clear hr0 hc0
  unfold impl_ReadAgg.f at h
  by_cases hz : l0.length = 0
  · rw [if_pos hz] at h
    simp only [Option.some.injEq, Prod.mk.injEq] at h
    obtain ⟨rfl, rfl, rfl, rfl, rfl, rfl, rfl⟩ := h
    have hzb : ((l0.length : Int) == 0) = true := by rw [hz]; rfl
    clear hz
    go_enter Try.func14, Try.ntmps14
    go_wp2_with (first | ((with_reducible refine gate_dst (N := 2) rfl ?_); refine box_event ?hg (N := 2) ?hd (cs := #[.int .i64 0, .int .i64 0, .int .i64 0, .int .i64 0, .slice none 0 0, .bool false]) (t := 26) ?hr ?_; (case hd => rfl); (case hg => rfl); (case hr => first | (go_simp; done) | (go_simp; rfl)); intro g2 hg w2 hbox hb; have GE := Aside0.mk ((by rw [hg]; exact Nat.le_refl _) : w.heap.size ≤ g2); have B2 := Aside0.mk (below_step (by with_reducible repeat (first | exact HB.out | apply below_alloc | apply pw_below_drewN | apply below_drew1)) hb); have BR := Aside0.mk hbox; clear HB; have HB := B2; have hq6 := c6 BR.out; have hf6 := f6 BR.out; clear B2 hb hbox hg))
    refine bodyPost_ret (results_ct rfl _ _ g2 26 #[.int .i64 0, .int .i64 0, .int .i64 0, .int .i64 0, .slice none 0 0, .bool false] (0, 0) _ rfl (by (with_reducible repeat (first | refine blk_drewN ?_ _ | refine blk_drew ?_)); exact p6 (show _ = some (Obj.cells #[.int .i64 0, .int .i64 0, .int .i64 0, .int .i64 0, .slice none 0 0, .bool false] 26 (0, 0)) from by (with_reducible repeat (first | refine blk_drewN ?_ _ | refine blk_drew ?_)); exact BR.out)) Try.underlying26 rfl (by kernel_rfl)) rfl ?_
    exact ⟨_, rfl, Kd.Q_nil _ _ _ _ _, by with_reducible repeat (first | exact HB.out | apply below_alloc | apply pw_below_drewN | apply below_drew1 | refine below_set ?_ GE.out)⟩
  · rw [if_neg hz] at h
    have hzb : ((l0.length : Int) == 0) = false := by simp only [beq_eq_false_iff_ne]; omega
    have hz0 : 0 < l0.length := Nat.pos_of_ne_zero hz
    have HZ0 := Aside0.mk hz0
    replace h := Option.bind_eq_some_iff.mp h
    obtain ⟨o, hl, h⟩ := h
    have HL := Aside0.mk hl
    have H := Aside0.mk h
    clear hz hz0 h hl
    obtain ⟨y0, hy0⟩ : ∃ y : List Int, y = [] := ⟨_, rfl⟩
    have Ny0 := Aside0.mk hy0
    clear hy0
    go_enter Try.func14, Try.ntmps14
    go_wp2_with (first | ((with_reducible refine gate_dst (N := 2) rfl ?_); refine box_event ?hg (N := 2) ?hd (cs := #[.int .i64 0, .int .i64 0, .int .i64 0, .int .i64 0, .slice none 0 0, .bool false]) (t := 26) ?hr ?_; (case hd => rfl); (case hg => rfl); (case hr => first | (go_simp; done) | (go_simp; rfl)); intro g2 hg w2 hbox hb; have GE := Aside0.mk ((by rw [hg]; exact Nat.le_refl _) : w.heap.size ≤ g2); have B2 := Aside0.mk (below_step (by with_reducible repeat (first | exact HB.out | apply below_alloc | apply pw_below_drewN | apply below_drew1)) hb); have BR := Aside0.mk hbox; clear HB; have HB := B2; have hq6 := c6 BR.out; have hf6 := f6 BR.out; clear B2 hb hbox hg) | ((with_reducible refine gate_dst (N := 15) rfl ?_); refine Kd.R_lit (Kd.int .i64) _ 3 ?hg (N := 15) ?hd (xs := ([] : List Int)) (inner := []) (ok := fun _ => True) (okp := fun _ => True) ?hr ?hp (fun _ hk => hk) trivial (Below.refl _ _) (Nat.le_refl _) (by simp) ?_; (case hd => rfl); (case hg => rfl); (case hr => first | (go_simp; done) | (go_simp; rfl)); (case hp => exact (Reps.none _ _)); intro v3 w3 ho3 hb hg_ hnew_; clear hg_ hnew_; rw [← Ny0.out] at ho3; have S := Aside0.mk (⟨blk_below (by (with_reducible repeat (first | refine blk_drewN ?_ _ | refine blk_drew ?_)); exact BR.out) hb, Kd.R_lower ho3 (below_size (by with_reducible repeat (first | exact HB.out | apply below_alloc | apply pw_below_drewN | apply below_drew1))), below_step (by with_reducible repeat (first | exact HB.out | apply below_alloc | apply pw_below_drewN | apply below_drew1)) hb⟩ : impl_ReadAgg.St w w3 g2 v3 y0); clear hb ho3 BR HB))
    go_loopg [4, 5, 16] 12 (fun gg v4 v5 v16 w' => ∃ (kk : Nat) (at_ : Int) (vv : Value) (acc : List Int), kk ≤ 12 ∧ 12 - kk ≤ gg ∧ v4 = vv ∧ v5 = .int .i64 at_ ∧ v16 = .int .i64 kk ∧ Aside0 (acc.length = kk) ∧ Aside0 (impl_ReadAgg.l k l0 (12 - kk) acc at_ = some o) ∧ Aside0 (impl_ReadAgg.St w w' g2 vv acc))
    case atStart => exact ⟨0, 1, v3, y0, Nat.zero_le _, by omega, rfl, rfl, rfl, ⟨by rw [Ny0.out]; rfl⟩, ⟨by rw [Ny0.out]; exact HL.out⟩, ⟨(by with_reducible repeat (first | exact S.out | apply impl_ReadAgg.St.drewN | apply impl_ReadAgg.St.drew))⟩⟩
    case round =>
      clear HL Ny0 S
      obtain ⟨kk, at_, vv, acc, hkk, hg, rfl, rfl, rfl, LA, HL, S⟩ := hrel
      by_cases hlt : kk < 12
      · have hltz : (kk : Int) < 12 := by omega
        have hl := HL.out
        rw [show 12 - kk = (12 - (kk + 1)) + 1 by omega] at hl
        simp only [impl_ReadAgg.l] at hl
        replace hl := Option.bind_eq_some_iff.mp hl
        obtain ⟨⟨x, nx, ok⟩, hv, hl⟩ := hl
        have HV := Aside0.mk hv
        have HN := Aside0.mk hl
        clear hv hl HL
        cases ok with
        | false =>
          have hn := HN.out
          simp only [Bool.false_eq_true, if_false, Option.some.injEq] at hn
          subst hn
          have h := H.out
          simp only [Option.elim_none, Option.some.injEq, Prod.mk.injEq] at h
          obtain ⟨rfl, rfl, rfl, rfl, rfl, rfl, rfl⟩ := h
          clear HN H
          go_wp2_with (first | ((with_reducible refine gate_callee (f := 27) rfl ?_); refine goesL_ (some 21) rfl rfl Try.func27 (by kernel_rfl) rfl #[.slice A0 l0.length c0, .int .i64 at_] rfl (by (try simp only [List.map_toArray, List.map_cons, List.map_nil]); first | done | rfl) ?_; (with_reducible refine (impl_ReadVar.calls k _ _ l0 at_ x nx false _ ?side1 HC0.out HV.out).mono ?_); (case side1 => exact Kd.C_below HR0.out (impl_ReadAgg.St.bel (by with_reducible repeat (first | exact S.out | apply impl_ReadAgg.St.drewN | apply impl_ReadAgg.St.drew)))); rintro e w5 ⟨rfl, hb⟩; refine ⟨_, rfl, ?_⟩; have S5 := Aside0.mk (impl_ReadAgg.St.below (by with_reducible repeat (first | exact S.out | apply impl_ReadAgg.St.drewN | apply impl_ReadAgg.St.drew)) hb); have BR := Aside0.mk S5.out.br; have HB := Aside0.mk S5.out.bel; have hq6 := c6 BR.out; have hf6 := f6 BR.out; clear hb S))
          refine bodyPost_ret (results_ct rfl _ _ g2 26 #[.int .i64 0, .int .i64 0, .int .i64 0, .int .i64 0, .slice none 0 0, .bool false] (0, 0) _ rfl (by (with_reducible repeat (first | refine blk_drewN ?_ _ | refine blk_drew ?_)); exact p6 (show _ = some (Obj.cells #[.int .i64 0, .int .i64 0, .int .i64 0, .int .i64 0, .slice none 0 0, .bool false] 26 (0, 0)) from by (with_reducible repeat (first | refine blk_drewN ?_ _ | refine blk_drew ?_)); exact BR.out)) Try.underlying26 rfl (by kernel_rfl)) rfl ?_
          exact ⟨_, rfl, Kd.Q_nil _ _ _ _ _, by with_reducible repeat (first | exact HB.out | apply below_alloc | apply pw_below_drewN | apply below_drew1 | refine below_set ?_ GE.out)⟩
        | true =>
          have hn := HN.out
          simp only [if_true] at hn
          have HN2 := Aside0.mk hn
          clear hn HN
          obtain ⟨Ao, co, eo⟩ := Kd.R_slice S.out.row
          subst eo
          cases hodd : (bits BinOp.and IntKind.u64 x 1 == 1)
          · have hzig : impl_ReadAgg.zig x = (wrap64 (x / 2)) := by unfold impl_ReadAgg.zig; rw [hodd]; rfl
            rw [hzig] at HN2
            clear hzig
            obtain ⟨y6, hy6⟩ : ∃ y : List Int, y = acc ++ [(wrap64 (x / 2))] := ⟨_, rfl⟩
            rw [← hy6] at HN2
            have Ny6 := Aside0.mk hy6
            clear hy6
            go_wp2_with (first | ((with_reducible refine gate_callee (f := 27) rfl ?_); refine goesL_ (some 21) rfl rfl Try.func27 (by kernel_rfl) rfl #[.slice A0 l0.length c0, .int .i64 at_] rfl (by (try simp only [List.map_toArray, List.map_cons, List.map_nil]); first | done | rfl) ?_; (with_reducible refine (impl_ReadVar.calls k _ _ l0 at_ x nx true _ ?side1 HC0.out HV.out).mono ?_); (case side1 => exact Kd.C_below HR0.out (impl_ReadAgg.St.bel (by with_reducible repeat (first | exact S.out | apply impl_ReadAgg.St.drewN | apply impl_ReadAgg.St.drew)))); rintro e w5 ⟨rfl, hb⟩; refine ⟨_, rfl, ?_⟩; have S5 := Aside0.mk (impl_ReadAgg.St.below (by with_reducible repeat (first | exact S.out | apply impl_ReadAgg.St.drewN | apply impl_ReadAgg.St.drew)) hb); have BR := Aside0.mk S5.out.br; have HB := Aside0.mk S5.out.bel; have hq6 := c6 BR.out; have hf6 := f6 BR.out; clear hb S) | ((with_reducible refine gate_builtin (b := .append) (xs := #[.tmp 37, .tmp 39]) rfl ?_); at_builtin; refine Kd.R_append (Kd.int .i64) (w0 := w) w.heap.size rfl (.tmp 37) (.tmp 39) 22 3 (.int .i64 0) 8 rfl Try.underlying22 info3 rfl (by decide) (by omega) (.slice Ao acc.length co) acc (wrap64 (x / 2)) [.int .i64 (wrap64 (x / 2))] (fun _ => True) (fun _ => False) rfl rfl ?aP (fun _ hk => hk.elim) ?aF ?aO ?aB ?aS ?aL ?_; (case aP => exact rfl); (case aB => exact (by with_reducible repeat (first | exact S5.out.bel | apply below_alloc | apply pw_below_drewN | apply below_drew1))); (case aF => exact (fun _ _ => trivial)); (case aO => exact (by (with_reducible repeat (first | apply Kd.R_alloc | apply Kd.R_drewN | apply Kd.R_drew)); exact S5.out.row)); (case aS => exact (below_size (by with_reducible repeat (first | exact S5.out.bel | apply below_alloc | apply pw_below_drewN | apply below_drew1)))); (case aL => have := LA.out; omega); intro v6 w6 ho hb hg6 hat; rw [← Ny6.out] at ho; have S6 := Aside0.mk (⟨blk_grown (g := g2) (by (with_reducible repeat (first | refine blk_drewN ?_ _ | refine blk_drew ?_ | refine blk_alloc ?_ _)); exact S5.out.br) hg6 (Kd.R_ne S5.out.row S5.out.br (by decide)), ho, hb⟩ : impl_ReadAgg.St w w6 g2 v6 y6); clear ho hb hg6 hat BR HB hq6 hf6))
            go_roundg (12 - (kk + 1))
            case measure => omega
            case rel => exact ⟨kk + 1, nx, _, y6, by omega, by omega, rfl, rfl, by go_num, ⟨by rw [Ny6.out, List.length_append, LA.out]; rfl⟩, HN2, ⟨by with_reducible repeat (first | exact S6.out | apply impl_ReadAgg.St.drewN | apply impl_ReadAgg.St.drew)⟩⟩
          · have hzig : impl_ReadAgg.zig x = (wrap64 (wrap64 (-wrap64 (x / 2)) - 1)) := by unfold impl_ReadAgg.zig; rw [hodd]; rfl
            rw [hzig] at HN2
            clear hzig
            obtain ⟨y6, hy6⟩ : ∃ y : List Int, y = acc ++ [(wrap64 (wrap64 (-wrap64 (x / 2)) - 1))] := ⟨_, rfl⟩
            rw [← hy6] at HN2
            have Ny6 := Aside0.mk hy6
            clear hy6
            go_wp2_with (first | ((with_reducible refine gate_callee (f := 27) rfl ?_); refine goesL_ (some 21) rfl rfl Try.func27 (by kernel_rfl) rfl #[.slice A0 l0.length c0, .int .i64 at_] rfl (by (try simp only [List.map_toArray, List.map_cons, List.map_nil]); first | done | rfl) ?_; (with_reducible refine (impl_ReadVar.calls k _ _ l0 at_ x nx true _ ?side1 HC0.out HV.out).mono ?_); (case side1 => exact Kd.C_below HR0.out (impl_ReadAgg.St.bel (by with_reducible repeat (first | exact S.out | apply impl_ReadAgg.St.drewN | apply impl_ReadAgg.St.drew)))); rintro e w5 ⟨rfl, hb⟩; refine ⟨_, rfl, ?_⟩; have S5 := Aside0.mk (impl_ReadAgg.St.below (by with_reducible repeat (first | exact S.out | apply impl_ReadAgg.St.drewN | apply impl_ReadAgg.St.drew)) hb); have BR := Aside0.mk S5.out.br; have HB := Aside0.mk S5.out.bel; have hq6 := c6 BR.out; have hf6 := f6 BR.out; clear hb S) | ((with_reducible refine gate_builtin (b := .append) (xs := #[.tmp 37, .tmp 39]) rfl ?_); at_builtin; refine Kd.R_append (Kd.int .i64) (w0 := w) w.heap.size rfl (.tmp 37) (.tmp 39) 22 3 (.int .i64 0) 8 rfl Try.underlying22 info3 rfl (by decide) (by omega) (.slice Ao acc.length co) acc (wrap64 (wrap64 (-wrap64 (x / 2)) - 1)) [.int .i64 (wrap64 (wrap64 (-wrap64 (x / 2)) - 1))] (fun _ => True) (fun _ => False) rfl rfl ?aP (fun _ hk => hk.elim) ?aF ?aO ?aB ?aS ?aL ?_; (case aP => exact rfl); (case aB => exact (by with_reducible repeat (first | exact S5.out.bel | apply below_alloc | apply pw_below_drewN | apply below_drew1))); (case aF => exact (fun _ _ => trivial)); (case aO => exact (by (with_reducible repeat (first | apply Kd.R_alloc | apply Kd.R_drewN | apply Kd.R_drew)); exact S5.out.row)); (case aS => exact (below_size (by with_reducible repeat (first | exact S5.out.bel | apply below_alloc | apply pw_below_drewN | apply below_drew1)))); (case aL => have := LA.out; omega); intro v6 w6 ho hb hg6 hat; rw [← Ny6.out] at ho; have S6 := Aside0.mk (⟨blk_grown (g := g2) (by (with_reducible repeat (first | refine blk_drewN ?_ _ | refine blk_drew ?_ | refine blk_alloc ?_ _)); exact S5.out.br) hg6 (Kd.R_ne S5.out.row S5.out.br (by decide)), ho, hb⟩ : impl_ReadAgg.St w w6 g2 v6 y6); clear ho hb hg6 hat BR HB hq6 hf6))
            go_roundg (12 - (kk + 1))
            case measure => omega
            case rel => exact ⟨kk + 1, nx, _, y6, by omega, by omega, rfl, rfl, by go_num, ⟨by rw [Ny6.out, List.length_append, LA.out]; rfl⟩, HN2, ⟨by with_reducible repeat (first | exact S6.out | apply impl_ReadAgg.St.drewN | apply impl_ReadAgg.St.drew)⟩⟩
      · have hltz : ¬ (kk : Int) < 12 := by omega
        have hk12 : kk = 12 := by omega
        subst hk12
        have hl := HL.out
        simp only [Nat.sub_self, impl_ReadAgg.l, Option.some.injEq] at hl
        subst hl
        have h := H.out
        simp only [Option.elim_some] at h
        have H2 := Aside0.mk h
        clear h H HL
        obtain ⟨go, co, eo, hgb, hgl, _⟩ := Kd.R_form S.out.row (by rw [LA.out]; omega)
        subst eo
        have hz0 := HZ0.out
        obtain ⟨bd, eb, hxb⟩ := Kd.at_int (Kd.C_below HR0.out S.out.bel) (0 : Int) (by omega) (by omega)
        subst eb
        have hc := (Kd.R_reads' S.out.row).2.2
        have hla := LA.out
        obtain ⟨a0_, e0, hx0⟩ := Kd.at_int hc (0 : Int) (by omega) (by omega)
        cases e0
        obtain ⟨a0_, e0, hx1⟩ := Kd.at_int hc (1 : Int) (by omega) (by omega)
        cases e0
        obtain ⟨a0_, e0, hx2⟩ := Kd.at_int hc (2 : Int) (by omega) (by omega)
        cases e0
        obtain ⟨a0_, e0, hx3⟩ := Kd.at_int hc (3 : Int) (by omega) (by omega)
        cases e0
        have HB9 := Aside0.mk (show ∀ V, Below wr.heap.size wr V → impl_ReadAgg.Ce go bd acc l0 V from fun V hV => ⟨(hV.cell (World.block_lt_of_cell? _ _ hx0)).trans hx0, (hV.cell (World.block_lt_of_cell? _ _ hx1)).trans hx1, (hV.cell (World.block_lt_of_cell? _ _ hx2)).trans hx2, (hV.cell (World.block_lt_of_cell? _ _ hx3)).trans hx3, (hV.cell (World.block_lt_of_cell? _ _ hxb)).trans hxb⟩)
        have hlz : ((acc.length : Nat) : Int) = 12 := by rw [hla]; rfl
        clear hx0 hx1 hx2 hx3 hxb hc hla
        have hco := (Kd.R_reads' S.out.row).2.1
        rw [LA.out] at hco
        have hcoz : (12 : Int) ≤ (co : Int) := by omega
        have hco4 : ¬ co = 4 := by omega
        go_wp2
        have S5 := Aside0.mk (impl_ReadAgg.St.drew S.out)
        have HB5 := Aside0.mk (show ∀ V, Below wr.drew.heap.size wr.drew V → impl_ReadAgg.Ce go bd acc l0 V from fun V hV => HB9.out V (below_step (below_drew1 (Below.refl _ _)) hV))
        refine start_ (n := 21) (S := impl_ReadAgg.Ce go bd acc l0) (ds := [20]) #[false, false, false, false, false, false, false, false, false, false, false, false, false, false, false, false, false, false, false, false, false] (by kernel_rfl) rfl rfl (HB5.out _ (Below.refl _ _)) (fun hHeld => ?_)
        clear HB9 S
        generalize wr.drew = w5 at S5 HB5 hHeld ⊢
        refine pure_ (i := 0) (N := some 43) (v := ?_) (a' := ?_) #[true, false, false, false, false, false, false, false, false, false, false, false, false, false, false, false, false, false, false, false, false] rfl rfl (by kernel_rfl) (fun _ _ _ h => h) (Or.inl ⟨by rfl, ?_⟩) ?_ ?_
        rotate_left
        · intro w'
          go_simp
          with_reducible rfl
        rotate_left
        · simp only [Act.put, List.setIfInBounds_toArray, List.set_cons_zero, List.set_cons_succ, i64_w, i32_w]
          rfl
        refine pure_ (i := 1) (N := some 44) (v := ?_) (a' := ?_) #[true, true, false, false, false, false, false, false, false, false, false, false, false, false, false, false, false, false, false, false, false] rfl rfl (by kernel_rfl) (fun _ _ _ h => h) (Or.inl ⟨by rfl, ?_⟩) ?_ ?_
        rotate_left
        · intro w'
          go_simp
          with_reducible rfl
        rotate_left
        · simp only [Act.put, List.setIfInBounds_toArray, List.set_cons_zero, List.set_cons_succ, i64_w, i32_w]
          rfl
        refine take_ (i := 2) (N := some 45) (v := ?_) (a' := ?_) #[true, true, true, false, false, false, false, false, false, false, false, false, false, false, false, false, false, false, false, false, false] rfl rfl (by kernel_rfl) (fun _ _ _ h => h) (Or.inl ⟨by rfl, ?_⟩) hHeld ?_ ?_
        rotate_left
        · rintro w' ⟨s0, s1, s2, s3, s4⟩
          go_simp
          with_reducible rfl
        rotate_left
        · simp only [Act.put, List.setIfInBounds_toArray, List.set_cons_zero, List.set_cons_succ, i64_w, i32_w]
          rfl
        refine pure_ (i := 3) (N := some 46) (v := ?_) (a' := ?_) #[true, true, true, true, false, false, false, false, false, false, false, false, false, false, false, false, false, false, false, false, false] rfl rfl (by kernel_rfl) (fun _ _ _ h => h) (Or.inl ⟨by rfl, ?_⟩) ?_ ?_
        rotate_left
        · intro w'
          go_simp
          with_reducible rfl
        rotate_left
        · simp only [Act.put, List.setIfInBounds_toArray, List.set_cons_zero, List.set_cons_succ, i64_w, i32_w]
          rfl
        refine pure_ (i := 4) (N := some 47) (v := ?_) (a' := ?_) #[true, true, true, true, true, false, false, false, false, false, false, false, false, false, false, false, false, false, false, false, false] rfl rfl (by kernel_rfl) (fun _ _ _ h => h) (Or.inl ⟨by rfl, ?_⟩) ?_ ?_
        rotate_left
        · intro w'
          go_simp
          with_reducible rfl
        rotate_left
        · simp only [Act.put, List.setIfInBounds_toArray, List.set_cons_zero, List.set_cons_succ, i64_w, i32_w]
          rfl
        refine take_ (i := 5) (N := some 48) (v := ?_) (a' := ?_) #[true, true, true, true, true, true, false, false, false, false, false, false, false, false, false, false, false, false, false, false, false] rfl rfl (by kernel_rfl) (fun _ _ _ h => h) (Or.inl ⟨by rfl, ?_⟩) hHeld ?_ ?_
        rotate_left
        · rintro w' ⟨s0, s1, s2, s3, s4⟩
          go_simp
          with_reducible rfl
        rotate_left
        · simp only [Act.put, List.setIfInBounds_toArray, List.set_cons_zero, List.set_cons_succ, i64_w, i32_w]
          rfl
        refine pure_ (i := 6) (N := some 49) (v := ?_) (a' := ?_) #[true, true, true, true, true, true, true, false, false, false, false, false, false, false, false, false, false, false, false, false, false] rfl rfl (by kernel_rfl) (fun _ _ _ h => h) (Or.inl ⟨by rfl, ?_⟩) ?_ ?_
        rotate_left
        · intro w'
          go_simp
          with_reducible rfl
        rotate_left
        · simp only [Act.put, List.setIfInBounds_toArray, List.set_cons_zero, List.set_cons_succ, i64_w, i32_w]
          rfl
        refine pure_ (i := 7) (N := some 50) (v := ?_) (a' := ?_) #[true, true, true, true, true, true, true, true, false, false, false, false, false, false, false, false, false, false, false, false, false] rfl rfl (by kernel_rfl) (fun _ _ _ h => h) (Or.inl ⟨by rfl, ?_⟩) ?_ ?_
        rotate_left
        · intro w'
          go_simp
          with_reducible rfl
        rotate_left
        · simp only [Act.put, List.setIfInBounds_toArray, List.set_cons_zero, List.set_cons_succ, i64_w, i32_w]
          rfl
        refine take_ (i := 8) (N := some 51) (v := ?_) (a' := ?_) #[true, true, true, true, true, true, true, true, true, false, false, false, false, false, false, false, false, false, false, false, false] rfl rfl (by kernel_rfl) (fun _ _ _ h => h) (Or.inl ⟨by rfl, ?_⟩) hHeld ?_ ?_
        rotate_left
        · rintro w' ⟨s0, s1, s2, s3, s4⟩
          go_simp
          with_reducible rfl
        rotate_left
        · simp only [Act.put, List.setIfInBounds_toArray, List.set_cons_zero, List.set_cons_succ, i64_w, i32_w]
          rfl
        refine pure_ (i := 9) (N := some 52) (v := ?_) (a' := ?_) #[true, true, true, true, true, true, true, true, true, true, false, false, false, false, false, false, false, false, false, false, false] rfl rfl (by kernel_rfl) (fun _ _ _ h => h) (Or.inl ⟨by rfl, ?_⟩) ?_ ?_
        rotate_left
        · intro w'
          go_simp
          with_reducible rfl
        rotate_left
        · simp only [Act.put, List.setIfInBounds_toArray, List.set_cons_zero, List.set_cons_succ, i64_w, i32_w]
          rfl
        refine pure_ (i := 10) (N := some 53) (v := ?_) (a' := ?_) #[true, true, true, true, true, true, true, true, true, true, true, false, false, false, false, false, false, false, false, false, false] rfl rfl (by kernel_rfl) (fun _ _ _ h => h) (Or.inl ⟨by rfl, ?_⟩) ?_ ?_
        rotate_left
        · intro w'
          go_simp
          with_reducible rfl
        rotate_left
        · simp only [Act.put, List.setIfInBounds_toArray, List.set_cons_zero, List.set_cons_succ, i64_w, i32_w]
          rfl
        refine take_ (i := 11) (N := some 54) (v := ?_) (a' := ?_) #[true, true, true, true, true, true, true, true, true, true, true, true, false, false, false, false, false, false, false, false, false] rfl rfl (by kernel_rfl) (fun _ _ _ h => h) (Or.inl ⟨by rfl, ?_⟩) hHeld ?_ ?_
        rotate_left
        · rintro w' ⟨s0, s1, s2, s3, s4⟩
          go_simp
          with_reducible rfl
        rotate_left
        · simp only [Act.put, List.setIfInBounds_toArray, List.set_cons_zero, List.set_cons_succ, i64_w, i32_w]
          rfl
        refine pure_ (i := 12) (N := some 55) (v := ?_) (a' := ?_) #[true, true, true, true, true, true, true, true, true, true, true, true, true, false, false, false, false, false, false, false, false] rfl rfl (by kernel_rfl) (fun _ _ _ h => h) (Or.inl ⟨by rfl, ?_⟩) ?_ ?_
        rotate_left
        · intro w'
          go_simp
          with_reducible rfl
        rotate_left
        · simp only [Act.put, List.setIfInBounds_toArray, List.set_cons_zero, List.set_cons_succ, i64_w, i32_w]
          rfl
        refine pure_ (i := 13) (N := some 56) (v := ?_) (a' := ?_) #[true, true, true, true, true, true, true, true, true, true, true, true, true, true, false, false, false, false, false, false, false] rfl rfl (by kernel_rfl) (fun _ _ _ h => h) (Or.inl ⟨by rfl, ?_⟩) ?_ ?_
        rotate_left
        · intro w'
          go_simp
          with_reducible rfl
        rotate_left
        · simp only [Act.put, List.setIfInBounds_toArray, List.set_cons_zero, List.set_cons_succ, i64_w, i32_w]
          rfl
        refine pure_ (i := 14) (N := some 57) (v := ?_) (a' := ?_) #[true, true, true, true, true, true, true, true, true, true, true, true, true, true, true, false, false, false, false, false, false] rfl rfl (by kernel_rfl) (fun _ _ _ h => h) (Or.inl ⟨by rfl, ?_⟩) ?_ ?_
        rotate_left
        · intro w'
          go_simp
          with_reducible rfl
        rotate_left
        · simp only [Act.put, List.setIfInBounds_toArray, List.set_cons_zero, List.set_cons_succ, i64_w, i32_w]
          rfl
        refine pure_ (i := 15) (N := some 58) (v := ?_) (a' := ?_) #[true, true, true, true, true, true, true, true, true, true, true, true, true, true, true, true, false, false, false, false, false] rfl rfl (by kernel_rfl) (fun _ _ _ h => h) (Or.inl ⟨by rfl, ?_⟩) ?_ ?_
        rotate_left
        · intro w'
          go_simp
          with_reducible rfl
        rotate_left
        · simp only [Act.put, List.setIfInBounds_toArray, List.set_cons_zero, List.set_cons_succ, i64_w, i32_w]
          rfl
        refine take_ (i := 16) (N := some 59) (v := ?_) (a' := ?_) #[true, true, true, true, true, true, true, true, true, true, true, true, true, true, true, true, true, false, false, false, false] rfl rfl (by kernel_rfl) (fun _ _ _ h => h) (Or.inl ⟨by rfl, ?_⟩) hHeld ?_ ?_
        rotate_left
        · rintro w' ⟨s0, s1, s2, s3, s4⟩
          go_simp
          with_reducible rfl
        rotate_left
        · simp only [Act.put, List.setIfInBounds_toArray, List.set_cons_zero, List.set_cons_succ, i64_w, i32_w]
          rfl
        refine pure_ (i := 17) (N := some 60) (v := ?_) (a' := ?_) #[true, true, true, true, true, true, true, true, true, true, true, true, true, true, true, true, true, true, false, false, false] rfl rfl (by kernel_rfl) (fun _ _ _ h => h) (Or.inl ⟨by rfl, ?_⟩) ?_ ?_
        rotate_left
        · intro w'
          go_simp
          with_reducible rfl
        rotate_left
        · simp only [Act.put, List.setIfInBounds_toArray, List.set_cons_zero, List.set_cons_succ, i64_w, i32_w]
          rfl
        refine pure_ (i := 18) (N := some 61) (v := ?_) (a' := ?_) #[true, true, true, true, true, true, true, true, true, true, true, true, true, true, true, true, true, true, true, false, false] rfl rfl (by kernel_rfl) (fun _ _ _ h => h) (Or.inl ⟨by rfl, ?_⟩) ?_ ?_
        rotate_left
        · intro w'
          go_simp
          with_reducible rfl
        rotate_left
        · simp only [Act.put, List.setIfInBounds_toArray, List.set_cons_zero, List.set_cons_succ, i64_w, i32_w]
          rfl
        refine one_ (i := 19) (N := some 10) #[true, true, true, true, true, true, true, true, true, true, true, true, true, true, true, true, true, true, true, true, false] rfl rfl (by kernel_rfl) (by decide) (fun K hK => ?_)
        refine box_step (cs := #[.int .i64 0, .int .i64 0, .int .i64 0, .int .i64 0, .slice none 0 0, .bool false]) (t := 26) (by rfl) rfl ?hr9 ?_
        (case hr9 => first | (go_simp; done) | (go_simp; rfl))
        intro g10 hg10 w6 hbox hb
        have S6 := Aside0.mk (impl_ReadAgg.St.below S5.out hb)
        have BX6 := Aside0.mk hbox
        have GX := Aside0.mk (show g10 = w5.heap.size from hg10)
        clear hg10
        have hq6 := c6 hbox
        have hf6 := f6 hbox
        refine hK.out _ _ (HB5.out _ hb) (fun hHeld => ?_)
        clear hK K
        refine norm_ (a' := ?_) ?_ ?_
        rotate_left
        · show Act.put _ (some 10) _ = _
          simp only [Act.put, List.setIfInBounds_toArray, List.set_cons_zero, List.set_cons_succ, i64_w, i32_w]
          rfl
        refine last_ (i := 20) (N := none) #[true, true, true, true, true, true, true, true, true, true, true, true, true, true, true, true, true, true, true, true, true] rfl rfl (by kernel_rfl) (by decide) (fun K hK => ?_)
        refine skip_ (w1 := ?_) (by rfl) rfl ?_ ?_
        rotate_left
        · go_simp
          rfl
        refine hK.out _ _ ?_
        clear hK K
        refine done_ (by kernel_rfl) ?_
        clear hHeld hq6 hf6
        have on7 := ((((((On.refl g10 w6).set 0 (.int .i64 (rd acc 0))).set 1 (.int .i64 (rd acc 1))).set 2 (.int .i64 (rd acc 2))).set 3 (.int .i64 (rd acc 3))).set 4 (.slice (some ⟨go, 4, none⟩) (acc.length - 4) (co - 4))).set 5 (.bool (rd l0 0 == 1))
        have bx7 := p6 BX6.out (x0 := .int .i64 (rd acc 0)) (x1 := .int .i64 (rd acc 1)) (x2 := .int .i64 (rd acc 2)) (x3 := .int .i64 (rd acc 3)) (x4 := .slice (some ⟨go, 4, none⟩) (acc.length - 4) (co - 4)) (x5 := .bool (rd l0 0 == 1))
        generalize hw7 : ((((((w6.setCell ⟨g10, 0, none⟩ (.int .i64 (rd acc 0))).setCell ⟨g10, 1, none⟩ (.int .i64 (rd acc 1))).setCell ⟨g10, 2, none⟩ (.int .i64 (rd acc 2))).setCell ⟨g10, 3, none⟩ (.int .i64 (rd acc 3))).setCell ⟨g10, 4, none⟩ (.slice (some ⟨go, 4, none⟩) (acc.length - 4) (co - 4))).setCell ⟨g10, 5, none⟩ (.bool (rd l0 0 == 1))) = w7 at on7 bx7 ⊢
        clear hw7
        have q7 := Kd.Q_drop (Kd.Q_of_R (on7.Rt S6.out.row BX6.out (by decide))) (k := 4) (by rw [LA.out]; omega)
        rw [if_neg hco4] at q7
        obtain ⟨D, hD⟩ : ∃ y : List Int, y = acc.drop 4 := ⟨_, rfl⟩
        have hDl : acc.length - 4 = D.length := by rw [hD, List.length_drop]
        rw [← hD, hDl] at q7
        rw [hDl] at bx7
        have F := Aside0.mk (⟨on7.blk S6.out.br (by rw [GX.out]; exact Nat.ne_of_lt (blk_lt S5.out.br)), bx7, q7, on7.below S6.out.bel (by rw [GX.out]; exact below_size S5.out.bel)⟩ : impl_ReadAgg.Fi w w7 g2 g10 #[.int .i64 (rd acc 0), .int .i64 (rd acc 1), .int .i64 (rd acc 2), .int .i64 (rd acc 3), .slice (some ⟨go, 4, none⟩) D.length (co - 4), .bool (rd l0 0 == 1)] (.slice (some ⟨go, 4, none⟩) D.length (co - 4)) D)
        have h := H2.out
        unfold impl_ReadAgg.g at h
        rw [← hD] at h
        have hq6 := c6 bx7
        clear on7 bx7 q7 hD hDl S5 S6 BX6 GX HB5 H2 HZ0 LA hco hcoz hco4
        replace h := Option.bind_eq_some_iff.mp h
        obtain ⟨gd, hg1, h⟩ := h
        have A1 := Aside0.mk hg1
        clear hg1
        cases gd with
        | false =>
          simp only [Bool.false_eq_true, if_false, Option.some.injEq, Prod.mk.injEq] at h
          obtain ⟨rfl, rfl, rfl, rfl, rfl, rfl, rfl⟩ := h
          go_wp2_with (first | ((with_reducible refine gate_callee (f := 21) rfl ?_); refine goesL_ (some 63) rfl rfl Try.func21 (by kernel_rfl) rfl #[.agg #[.int .i64 (rd acc 0), .int .i64 (rd acc 1), .int .i64 (rd acc 2), .int .i64 (rd acc 3), .slice (some ⟨go, 4, none⟩) D.length (co - 4), .bool (rd l0 0 == 1)]] rfl (by (try simp only [List.map_toArray, List.map_cons, List.map_nil]); first | done | rfl) ?_; (with_reducible refine (impl_GoodAgg.calls k _ _ _ _ _ _ D _ false _ ?side1 ?side2 A1.out).mono ?_); (case side1 => exact (Kd.Q_reads' (impl_ReadAgg.Fi.q (by with_reducible repeat (first | exact F.out | apply impl_ReadAgg.Fi.drewN | apply impl_ReadAgg.Fi.drew)))).2.2); (case side2 => exact (Kd.Q_reads' F.out.q).2.1); rintro e w8 ⟨rfl, hb⟩; refine ⟨_, rfl, ?_⟩; have F8 := Aside0.mk (impl_ReadAgg.Fi.below (by with_reducible repeat (first | exact F.out | apply impl_ReadAgg.Fi.drewN | apply impl_ReadAgg.Fi.drew)) hb); clear F hq6 hb; have F := F8; clear F8; have hq6 := c6 F.out.bx; have hr6 := c6 F.out.br; have hf6 := f6 F.out.br))
          have BR := Aside0.mk F.out.br
          have HB := Aside0.mk F.out.bel
          refine bodyPost_ret (results_ct rfl _ _ g2 26 #[.int .i64 0, .int .i64 0, .int .i64 0, .int .i64 0, .slice none 0 0, .bool false] (0, 0) _ rfl (by (with_reducible repeat (first | refine blk_drewN ?_ _ | refine blk_drew ?_)); exact p6 (show _ = some (Obj.cells #[.int .i64 0, .int .i64 0, .int .i64 0, .int .i64 0, .slice none 0 0, .bool false] 26 (0, 0)) from by (with_reducible repeat (first | refine blk_drewN ?_ _ | refine blk_drew ?_)); exact BR.out)) Try.underlying26 rfl (by kernel_rfl)) rfl ?_
          exact ⟨_, rfl, Kd.Q_nil _ _ _ _ _, by with_reducible repeat (first | exact HB.out | apply below_alloc | apply pw_below_drewN | apply below_drew1 | refine below_set ?_ GE.out)⟩
        | true =>
          simp only [if_true] at h
          replace h := Option.bind_eq_some_iff.mp h
          obtain ⟨bs, hg2, h⟩ := h
          replace h := Option.bind_eq_some_iff.mp h
          obtain ⟨eq, hg3, h⟩ := h
          have A2 := Aside0.mk hg2
          have A3 := Aside0.mk hg3
          clear hg2 hg3
          cases eq with
          | false =>
            simp only [Bool.false_eq_true, if_false, Option.some.injEq, Prod.mk.injEq] at h
            obtain ⟨rfl, rfl, rfl, rfl, rfl, rfl, rfl⟩ := h
            go_wp2_with (first | ((with_reducible refine gate_callee (f := 21) rfl ?_); refine goesL_ (some 63) rfl rfl Try.func21 (by kernel_rfl) rfl #[.agg #[.int .i64 (rd acc 0), .int .i64 (rd acc 1), .int .i64 (rd acc 2), .int .i64 (rd acc 3), .slice (some ⟨go, 4, none⟩) D.length (co - 4), .bool (rd l0 0 == 1)]] rfl (by (try simp only [List.map_toArray, List.map_cons, List.map_nil]); first | done | rfl) ?_; (with_reducible refine (impl_GoodAgg.calls k _ _ _ _ _ _ D _ true _ ?side1 ?side2 A1.out).mono ?_); (case side1 => exact (Kd.Q_reads' (impl_ReadAgg.Fi.q (by with_reducible repeat (first | exact F.out | apply impl_ReadAgg.Fi.drewN | apply impl_ReadAgg.Fi.drew)))).2.2); (case side2 => exact (Kd.Q_reads' F.out.q).2.1); rintro e w8 ⟨rfl, hb⟩; refine ⟨_, rfl, ?_⟩; have F8 := Aside0.mk (impl_ReadAgg.Fi.below (by with_reducible repeat (first | exact F.out | apply impl_ReadAgg.Fi.drewN | apply impl_ReadAgg.Fi.drew)) hb); clear F hq6 hb; have F := F8; clear F8; have hq6 := c6 F.out.bx; have hr6 := c6 F.out.br; have hf6 := f6 F.out.br) | (go_at_call 29; (with_reducible refine (impl_aggBytes.calls k _ _ _ _ _ _ D _ bs _ ?side1 ?side2 A2.out).mono ?_); (case side1 => exact (Kd.Q_reads' (impl_ReadAgg.Fi.q (by with_reducible repeat (first | exact F.out | apply impl_ReadAgg.Fi.drewN | apply impl_ReadAgg.Fi.drew)))).2.2); (case side2 => exact (Kd.Q_reads' F.out.q).2.1); rintro e w9 ⟨vb, rfl, ho, hb⟩; have F9 := Aside0.mk (impl_ReadAgg.Fi.below (by with_reducible repeat (first | exact F.out | apply impl_ReadAgg.Fi.drewN | apply impl_ReadAgg.Fi.drew)) hb); clear F hq6 hr6 hf6 hb; have F := F9; clear F9; have HOB := Aside0.mk ho; clear ho; obtain ⟨Ab, cb, eb9⟩ := Kd.R_slice HOB.out; subst eb9) | (go_at_call 28; (with_reducible refine (bytes_Equal.calls _ _ bs _ _ l0 false _ ?side1 ?side2 ?side3 HC0.out A3.out).mono ?_); (case side1 => exact (Kd.R_reads' (by (with_reducible repeat (first | apply Kd.R_alloc | apply Kd.R_drewN | apply Kd.R_drew)); exact HOB.out)).2.2); (case side2 => exact (Kd.R_reads' HOB.out).2.1); (case side3 => exact Kd.C_below HR0.out (impl_ReadAgg.Fi.bel (by with_reducible repeat (first | exact F.out | apply impl_ReadAgg.Fi.drewN | apply impl_ReadAgg.Fi.drew)))); rintro e w10 ⟨rfl, hd⟩; have F10 := Aside0.mk (impl_ReadAgg.Fi.below (by with_reducible repeat (first | exact F.out | apply impl_ReadAgg.Fi.drewN | apply impl_ReadAgg.Fi.drew)) hd.below); clear F hd HOB; have F := F10; clear F10; have hq6 := c6 F.out.bx; have hr6 := c6 F.out.br; have hf6 := f6 F.out.br))
            have BR := Aside0.mk F.out.br
            have HB := Aside0.mk F.out.bel
            refine bodyPost_ret (results_ct rfl _ _ g2 26 #[.int .i64 0, .int .i64 0, .int .i64 0, .int .i64 0, .slice none 0 0, .bool false] (0, 0) _ rfl (by (with_reducible repeat (first | refine blk_drewN ?_ _ | refine blk_drew ?_)); exact p6 (show _ = some (Obj.cells #[.int .i64 0, .int .i64 0, .int .i64 0, .int .i64 0, .slice none 0 0, .bool false] 26 (0, 0)) from by (with_reducible repeat (first | refine blk_drewN ?_ _ | refine blk_drew ?_)); exact BR.out)) Try.underlying26 rfl (by kernel_rfl)) rfl ?_
            exact ⟨_, rfl, Kd.Q_nil _ _ _ _ _, by with_reducible repeat (first | exact HB.out | apply below_alloc | apply pw_below_drewN | apply below_drew1 | refine below_set ?_ GE.out)⟩
          | true =>
            simp only [if_true, Option.some.injEq, Prod.mk.injEq] at h
            obtain ⟨rfl, rfl, rfl, rfl, rfl, rfl, rfl⟩ := h
            go_wp2_with (first | ((with_reducible refine gate_callee (f := 21) rfl ?_); refine goesL_ (some 63) rfl rfl Try.func21 (by kernel_rfl) rfl #[.agg #[.int .i64 (rd acc 0), .int .i64 (rd acc 1), .int .i64 (rd acc 2), .int .i64 (rd acc 3), .slice (some ⟨go, 4, none⟩) D.length (co - 4), .bool (rd l0 0 == 1)]] rfl (by (try simp only [List.map_toArray, List.map_cons, List.map_nil]); first | done | rfl) ?_; (with_reducible refine (impl_GoodAgg.calls k _ _ _ _ _ _ D _ true _ ?side1 ?side2 A1.out).mono ?_); (case side1 => exact (Kd.Q_reads' (impl_ReadAgg.Fi.q (by with_reducible repeat (first | exact F.out | apply impl_ReadAgg.Fi.drewN | apply impl_ReadAgg.Fi.drew)))).2.2); (case side2 => exact (Kd.Q_reads' F.out.q).2.1); rintro e w8 ⟨rfl, hb⟩; refine ⟨_, rfl, ?_⟩; have F8 := Aside0.mk (impl_ReadAgg.Fi.below (by with_reducible repeat (first | exact F.out | apply impl_ReadAgg.Fi.drewN | apply impl_ReadAgg.Fi.drew)) hb); clear F hq6 hb; have F := F8; clear F8; have hq6 := c6 F.out.bx; have hr6 := c6 F.out.br; have hf6 := f6 F.out.br) | (go_at_call 29; (with_reducible refine (impl_aggBytes.calls k _ _ _ _ _ _ D _ bs _ ?side1 ?side2 A2.out).mono ?_); (case side1 => exact (Kd.Q_reads' (impl_ReadAgg.Fi.q (by with_reducible repeat (first | exact F.out | apply impl_ReadAgg.Fi.drewN | apply impl_ReadAgg.Fi.drew)))).2.2); (case side2 => exact (Kd.Q_reads' F.out.q).2.1); rintro e w9 ⟨vb, rfl, ho, hb⟩; have F9 := Aside0.mk (impl_ReadAgg.Fi.below (by with_reducible repeat (first | exact F.out | apply impl_ReadAgg.Fi.drewN | apply impl_ReadAgg.Fi.drew)) hb); clear F hq6 hr6 hf6 hb; have F := F9; clear F9; have HOB := Aside0.mk ho; clear ho; obtain ⟨Ab, cb, eb9⟩ := Kd.R_slice HOB.out; subst eb9) | (go_at_call 28; (with_reducible refine (bytes_Equal.calls _ _ bs _ _ l0 true _ ?side1 ?side2 ?side3 HC0.out A3.out).mono ?_); (case side1 => exact (Kd.R_reads' (by (with_reducible repeat (first | apply Kd.R_alloc | apply Kd.R_drewN | apply Kd.R_drew)); exact HOB.out)).2.2); (case side2 => exact (Kd.R_reads' HOB.out).2.1); (case side3 => exact Kd.C_below HR0.out (impl_ReadAgg.Fi.bel (by with_reducible repeat (first | exact F.out | apply impl_ReadAgg.Fi.drewN | apply impl_ReadAgg.Fi.drew)))); rintro e w10 ⟨rfl, hd⟩; have F10 := Aside0.mk (impl_ReadAgg.Fi.below (by with_reducible repeat (first | exact F.out | apply impl_ReadAgg.Fi.drewN | apply impl_ReadAgg.Fi.drew)) hd.below); clear F hd HOB; have F := F10; clear F10; have hq6 := c6 F.out.bx; have hr6 := c6 F.out.br; have hf6 := f6 F.out.br))
            have BR := Aside0.mk F.out.br
            have HB := Aside0.mk F.out.bel
            refine bodyPost_ret (results_ct rfl _ _ g2 26 #[.int .i64 (rd acc 0), .int .i64 (rd acc 1), .int .i64 (rd acc 2), .int .i64 (rd acc 3), .slice (some ⟨go, 4, none⟩) D.length (co - 4), .bool (rd l0 0 == 1)] (0, 0) _ rfl (by (with_reducible repeat (first | refine blk_drewN ?_ _ | refine blk_drew ?_)); exact p6 (show _ = some (Obj.cells #[.int .i64 0, .int .i64 0, .int .i64 0, .int .i64 0, .slice none 0 0, .bool false] 26 (0, 0)) from by (with_reducible repeat (first | refine blk_drewN ?_ _ | refine blk_drew ?_)); exact BR.out)) Try.underlying26 rfl (by kernel_rfl)) rfl ?_
            have on8 := fun (W : World) (hW : Kd.Q (Kd.int .i64) 3 W w.heap.size (fun _ => True) (.slice (some ⟨go, 4, none⟩) D.length (co - 4)) D) (hb : W.heap[g2]? = some (.cells #[.int .i64 0, .int .i64 0, .int .i64 0, .int .i64 0, .slice none 0 0, .bool false] 26 (0, 0))) => On.Qt (((((((On.refl g2 W).set 0 (.int .i64 (rd acc 0))).set 1 (.int .i64 (rd acc 1))).set 2 (.int .i64 (rd acc 2))).set 3 (.int .i64 (rd acc 3))).set 4 (.slice (some ⟨go, 4, none⟩) D.length (co - 4))).set 5 (.bool (rd l0 0 == 1))) hW hb (by decide)
            exact ⟨_, rfl, by (with_reducible repeat (first | apply Kd.Q_drewN | apply Kd.Q_drew)); exact on8 _ (impl_ReadAgg.Fi.q (by with_reducible repeat (first | exact F.out | apply impl_ReadAgg.Fi.drewN | apply impl_ReadAgg.Fi.drew))) (impl_ReadAgg.Fi.br (by with_reducible repeat (first | exact F.out | apply impl_ReadAgg.Fi.drewN | apply impl_ReadAgg.Fi.drew))), by with_reducible repeat (first | exact HB.out | apply below_alloc | apply pw_below_drewN | apply below_drew1 | refine below_set ?_ GE.out)⟩

/-! ### laws_eqByteS: function 15 -/
def laws_eqByteS.l0 : Nat → List Int → List Int → Int → Option (Bool)
  | 0, _, _, _ => none
  | k + 1, x0, x1, x5 => if x5 < (x0.length : Int) then (if 0 ≤ x5 then (if x5 < (x1.length : Int) then (if (rd x0 x5) = (rd x1 x5) then (laws_eqByteS.l0 k x0 x1 (wrap64 (x5 + 1))) else (some false)) else (none)) else (none)) else (some true)
def laws_eqByteS.f (k : Nat) (l0 : List Int) (l1 : List Int) : Option (Bool) := if (l0.length : Int) = (l1.length : Int) then (laws_eqByteS.l0 k l0 l1 0) else (some false)
theorem laws_eqByteS.mono_l : ∀ k, (∀ y0 y1 y2, LeO (laws_eqByteS.l0 k y0 y1 y2) (laws_eqByteS.l0 (k + 1) y0 y1 y2))
  | 0 => fun _ _ _ r h => by simp [laws_eqByteS.l0] at h
  | k + 1 => by
    have ih0 := laws_eqByteS.mono_l k
    · intro y0 y1 y2
      unfold laws_eqByteS.l0
      repeat' first
      | (with_reducible exact ih0 _ _ _)
      | (with_reducible exact LeO.refl _)
      | (with_reducible exact LeO.none _)
      | (with_reducible refine LeO.ite ?_ ?_)
      | (with_reducible refine LeO.bind ?_ (fun _ => ?_))
      | exact ih0 _ _ _
      | exact LeO.none _
      | refine LeO.ite ?_ ?_
      | refine LeO.bind ?_ (fun _ => ?_)
theorem laws_eqByteS.mono : ∀ a0 a1 k, LeO (laws_eqByteS.f k a0 a1) (laws_eqByteS.f (k + 1) a0 a1) := by
  intro a0 a1 k
  have ih0 := laws_eqByteS.mono_l k
  unfold laws_eqByteS.f
  repeat' first
      | (with_reducible exact ih0 _ _ _)
      | (with_reducible exact LeO.refl _)
      | (with_reducible exact LeO.none _)
      | (with_reducible refine LeO.ite ?_ ?_)
      | (with_reducible refine LeO.bind ?_ (fun _ => ?_))
      | exact ih0 _ _ _
      | exact LeO.none _
      | refine LeO.ite ?_ ?_
      | refine LeO.bind ?_ (fun _ => ?_)
set_option maxHeartbeats 8000000 in
set_option maxRecDepth 100000 in
theorem laws_eqByteS.calls (k : Nat) (A0 : Option Addr) (c0 : Nat) (l0 : List Int) (A1 : Option Addr) (c1 : Nat) (l1 : List Int) (r : Bool) (w : World) (hr0 : Kd.C (Kd.int .u8) w A0 l0.length l0) (hc0 : l0.length ≤ c0) (hr1 : Kd.C (Kd.int .u8) w A1 l1.length l1) (hc1 : l1.length ≤ c1) (h : laws_eqByteS.f k l0 l1 = some r) :
    Calls Try.prog 15 #[.slice A0 l0.length c0, .slice A1 l1.length c1] w fun e w' => e = .returned (.bool r) ∧ Drawn0 w w' := by
  have HR0 := Aside0.mk hr0
  have HC0 := Aside0.mk hc0
  clear hr0 hc0
  have HR1 := Aside0.mk hr1
  have HC1 := Aside0.mk hc1
  clear hr1 hc1
  have H : (if (l0.length : Int) = (l1.length : Int) then (laws_eqByteS.l0 k l0 l1 0) else (some false)) = some r := h
  clear h
  by_cases c3 : (l0.length : Int) = (l1.length : Int)
  · rw [if_pos c3] at H
    have c3b0 : ((l0.length : Int) == (l1.length : Int)) = true := beq_iff_eq.mpr c3
    have c3b1 : ((l0.length : Int) != (l1.length : Int)) = false := bne_eq_false_iff_eq.mpr c3
    have c3b2 : (l0.length == l1.length) = true := by first | simpa using c3 | (simp at c3 ⊢; omega)
    clear c3
    have H' := Aside0.mk H
    clear H
    go_enter Try.func15, Try.ntmps15
    go_wp2
    repeat (go_quiet (fail); try go_wp2)
    go_loopg [5] k (fun kq v5 w' => ∃ (x5_1 : Int), v5 = .int .i64 x5_1 ∧ Aside0 (laws_eqByteS.l0 kq l0 l1 x5_1 = some r) ∧ Aside0 (kq ≤ k) ∧ Drawn0 w w')
    case atStart => exact ⟨(0), (by first | rfl | (simp; done) | (simp [*]; done)), H', ⟨Nat.le_refl _⟩, by repeat (first | exact Drawn0.refl _ | apply Drawn0.step)⟩
    case round =>
      clear H'
      try clear c1
      try clear p2
      try clear c3
      try clear c3b0
      try clear c3b1
      try clear c3b2
      obtain ⟨x5_1, rfl, HA, HK1, ⟨m1, rfl⟩⟩ := hrel
      cases gk with
      | zero => exact absurd HA.out (by simp [laws_eqByteS.l0])
      | succ k1 =>
        have H := HA.out
        clear HA
        simp only [laws_eqByteS.l0] at H
        by_cases c4 : x5_1 < (l0.length : Int)
        · rw [if_pos c4] at H
          have c4b0 : decide (x5_1 < (l0.length : Int)) = true := decide_eq_true c4
          clear c4
          by_cases c5 : 0 ≤ x5_1
          · rw [if_pos c5] at H
            have c5b0 : decide (0 ≤ x5_1) = true := decide_eq_true c5
            clear c5
            by_cases c6 : x5_1 < (l1.length : Int)
            · rw [if_pos c6] at H
              have c6b0 : decide (x5_1 < (l1.length : Int)) = true := decide_eq_true c6
              clear c6
              by_cases c7 : (rd l0 x5_1) = (rd l1 x5_1)
              · rw [if_pos c7] at H
                have c7b0 : ((rd l0 x5_1) == (rd l1 x5_1)) = true := beq_iff_eq.mpr c7
                have c7b1 : ((rd l0 x5_1) != (rd l1 x5_1)) = false := bne_eq_false_iff_eq.mpr c7
                clear c7
                have H' := Aside0.mk H
                clear H
                have p177 : 0 ≤ (x5_1 : Int) := of_decide_eq_true (by first | (with_reducible assumption) | assumption)
                have q177 : x5_1 < (l0.length : Int) := of_decide_eq_true (by first | (with_reducible assumption) | assumption)
                obtain ⟨ad177, e177, hx177_0⟩ := Kd.at_int HR0.out x5_1 p177 q177
                cases e177
                replace p177 := eq_true p177
                replace q177 := eq_true q177
                have p178 : 0 ≤ (x5_1 : Int) := of_decide_eq_true (by first | (with_reducible assumption) | assumption)
                have q178 : x5_1 < (l1.length : Int) := of_decide_eq_true (by first | (with_reducible assumption) | assumption)
                obtain ⟨ad178, e178, hx178_0⟩ := Kd.at_int HR1.out x5_1 p178 q178
                cases e178
                replace p178 := eq_true p178
                replace q178 := eq_true q178
                go_wp2
                repeat (go_quiet (fail); try go_wp2)
                go_roundg k1
                case measure => have := HK1.out; omega
                case rel => exact ⟨(wrap64 (x5_1 + 1)), (by first | rfl | (simp; done) | (simp [*]; done)), H', ⟨by have := HK1.out; omega⟩, by repeat (first | exact Drawn0.refl _ | apply Drawn0.step)⟩
              · rw [if_neg c7] at H
                have c7b0 : ((rd l0 x5_1) == (rd l1 x5_1)) = false := beq_eq_false_iff_ne.mpr c7
                have c7b1 : ((rd l0 x5_1) != (rd l1 x5_1)) = true := bne_iff_ne.mpr c7
                obtain rfl := Option.some.inj H
                have p177 : 0 ≤ (x5_1 : Int) := of_decide_eq_true (by first | (with_reducible assumption) | assumption)
                have q177 : x5_1 < (l0.length : Int) := of_decide_eq_true (by first | (with_reducible assumption) | assumption)
                obtain ⟨ad177, e177, hx177_0⟩ := Kd.at_int HR0.out x5_1 p177 q177
                cases e177
                replace p177 := eq_true p177
                replace q177 := eq_true q177
                have p178 : 0 ≤ (x5_1 : Int) := of_decide_eq_true (by first | (with_reducible assumption) | assumption)
                have q178 : x5_1 < (l1.length : Int) := of_decide_eq_true (by first | (with_reducible assumption) | assumption)
                obtain ⟨ad178, e178, hx178_0⟩ := Kd.at_int HR1.out x5_1 p178 q178
                cases e178
                replace p178 := eq_true p178
                replace q178 := eq_true q178
                go_wp2
                repeat (go_quiet (fail); try go_wp2)
                go_ret
                exact ⟨by first | rfl | (simp; done) | (simp [*]; done), by repeat (first | exact Drawn0.refl _ | apply Drawn0.step)⟩
            · rw [if_neg c6] at H
              exact absurd H (by simp)
          · rw [if_neg c5] at H
            exact absurd H (by simp)
        · rw [if_neg c4] at H
          have c4b0 : decide (x5_1 < (l0.length : Int)) = false := decide_eq_false c4
          clear c4
          obtain rfl := Option.some.inj H
          go_wp2
          repeat (go_quiet (fail); try go_wp2)
          go_ret
          exact ⟨by first | rfl | (simp; done) | (simp [*]; done), by repeat (first | exact Drawn0.refl _ | apply Drawn0.step)⟩
  · rw [if_neg c3] at H
    have c3b0 : ((l0.length : Int) == (l1.length : Int)) = false := beq_eq_false_iff_ne.mpr c3
    have c3b1 : ((l0.length : Int) != (l1.length : Int)) = true := bne_iff_ne.mpr c3
    have c3b2 : (l0.length == l1.length) = false := by first | simpa using c3 | (simp at c3 ⊢; omega)
    obtain rfl := Option.some.inj H
    go_enter Try.func15, Try.ntmps15
    go_wp2
    repeat (go_quiet (fail); try go_wp2)
    go_ret
    exact ⟨by first | rfl | (simp; done) | (simp [*]; done), by repeat (first | exact Drawn0.refl _ | apply Drawn0.step)⟩

end Go.Proofs.Ytncnfkcnimfbmaa.PFnExactReadAgg
