-- Written for this claim by a program of this session: a scratch copy of the kit's print with patches of this session.
import Derived.Test.YtllmlnagihlokaaPFnExactBuildTablex0
import Derived.Test.YtllmlnagihlokaaPFnExactBuildTablex15
namespace Go.Proofs.Ytllmlnagihlokaa.PFnExactBuildTable
open Go.RowKit Go.Proofs.YtllmlnagihlokaaW.PrintWords Go.Proofs.YtllmlnagihlokaaW.PrintLast Go.Proofs.YtllmlnagihlokaaW.PrintMore
attribute [local go_sem] max2_int min2_int max_two min_two max_three min_three max_four min_four hw_string_geq hw_string_gtr hw_string_leq   -- for this text's walks alone
set_option linter.unusedVariables false
set_option linter.unusedSimpArgs false
abbrev bq16_0 : Array Bool := #[false, false, false, false, false, false, false, false, false, false]
abbrev bq16_1 : Array Bool := #[true, false, false, false, false, false, false, false, false, false]
abbrev bq16_2 : Array Bool := #[true, true, false, false, false, false, false, false, false, false]
abbrev bq16_3 : Array Bool := #[true, true, true, false, false, false, false, false, false, false]
abbrev bq16_4 : Array Bool := #[true, true, true, false, true, false, false, false, false, false]
abbrev bq16_5 : Array Bool := #[true, true, true, false, true, true, false, false, false, false]
abbrev bq16_6 : Array Bool := #[true, true, true, false, true, true, true, false, false, false]
abbrev bq16_7 : Array Bool := #[true, true, true, true, true, true, true, false, false, false]
abbrev bq16_8 : Array Bool := #[true, true, true, true, true, true, true, true, false, false]
abbrev bq16_9 : Array Bool := #[true, true, true, true, true, true, true, true, true, false]
abbrev bq16_10 : Array Bool := #[true, true, true, true, true, true, true, true, true, true]
theorem sq16_a {α : Type _} (l : List α) (i : Nat) (a : α) : l.toArray.setIfInBounds i a = (l.set i a).toArray := by simp
theorem sq16_b {α : Type _} (x : α) (l : List α) (a : α) : (x :: l).set 0 a = a :: l := rfl
theorem sq16_c {α : Type _} (x : α) (l : List α) (n : Nat) (a : α) : (x :: l).set (n + 1) a = x :: l.set n a := rfl

/-! ### laws_eqEntryS: function 11 -/
def laws_eqEntryS.l0 : Nat → List (S51) → List (S51) → Int → Option (Bool)
 | 0, _, _, _ => none
 | k + 1, x0, x1, x5 => if x5 < (x0.length : Int) then (if 0 ≤ x5 then (if x5 < (x1.length : Int) then ((laws_eqEntry.f k ((rd_T51 x0 x5).f0) ((rd_T51 x0 x5).f1) ((rd_T51 x0 x5).f2) ((rd_T51 x0 x5).f3.f0) ((rd_T51 x0 x5).f3.f1) ((rd_T51 x0 x5).f3.f2) ((rd_T51 x0 x5).f3.f3) ((rd_T51 x0 x5).f3.f4) ((rd_T51 x0 x5).f3.f5) ((rd_T51 x1 x5).f0) ((rd_T51 x1 x5).f1) ((rd_T51 x1 x5).f2) ((rd_T51 x1 x5).f3.f0) ((rd_T51 x1 x5).f3.f1) ((rd_T51 x1 x5).f3.f2) ((rd_T51 x1 x5).f3.f3) ((rd_T51 x1 x5).f3.f4) ((rd_T51 x1 x5).f3.f5)).bind fun t374 => (if t374 = true then (laws_eqEntryS.l0 k x0 x1 (wrap64 (x5 + 1))) else (some false))) else (none)) else (none)) else (some true)
def laws_eqEntryS.f (k : Nat) (l0 : List (S51)) (l1 : List (S51)) : Option (Bool) := if (l0.length : Int) = (l1.length : Int) then (laws_eqEntryS.l0 k l0 l1 0) else (some false)
theorem laws_eqEntryS.mono_l : ∀ k, (∀ y0 y1 y2, LeO (laws_eqEntryS.l0 k y0 y1 y2) (laws_eqEntryS.l0 (k + 1) y0 y1 y2))
 | 0 => fun _ _ _ r h => by simp [laws_eqEntryS.l0] at h
 | k + 1 => by
  have ih0 := laws_eqEntryS.mono_l k
  ·intro y0 y1 y2
   unfold laws_eqEntryS.l0
   repeat' first
   | (with_reducible exact ih0 _ _ _)
   | (with_reducible exact laws_eqEntry.mono _ _ _ _ _ _ _ _ _ _ _ _ _ _ _ _ _ _ _)
   | (with_reducible exact LeO.refl _)
   | (with_reducible exact LeO.none _)
   | (with_reducible refine LeO.ite ?_ ?_)
   | (with_reducible refine LeO.bind ?_ (fun _ => ?_))
   | exact ih0 _ _ _
   | exact laws_eqEntry.mono _ _ _ _ _ _ _ _ _ _ _ _ _ _ _ _ _ _ _
   | exact LeO.none _
   | refine LeO.ite ?_ ?_
   | refine LeO.bind ?_ (fun _ => ?_)
theorem laws_eqEntryS.mono : ∀ a0 a1 k, LeO (laws_eqEntryS.f k a0 a1) (laws_eqEntryS.f (k + 1) a0 a1) := by
 intro a0 a1 k
 have ih0 := laws_eqEntryS.mono_l k
 unfold laws_eqEntryS.f
 repeat' first
   | (with_reducible exact ih0 _ _ _)
   | (with_reducible exact laws_eqEntry.mono _ _ _ _ _ _ _ _ _ _ _ _ _ _ _ _ _ _ _)
   | (with_reducible exact LeO.refl _)
   | (with_reducible exact LeO.none _)
   | (with_reducible refine LeO.ite ?_ ?_)
   | (with_reducible refine LeO.bind ?_ (fun _ => ?_))
   | exact ih0 _ _ _
   | exact laws_eqEntry.mono _ _ _ _ _ _ _ _ _ _ _ _ _ _ _ _ _ _ _
   | exact LeO.none _
   | refine LeO.ite ?_ ?_
   | refine LeO.bind ?_ (fun _ => ?_)
def laws_eqEntryS.T6 : Bool × List (List Nat × List Nat) := (true, [([], []), ([], []), ([0, 1], [0, 1]), ([2], [2]), ([], []), ([], []), ([4, 5], [4, 5]), ([6], [6]), ([3, 7], [3, 7]), ([8], [8])])
def laws_eqEntryS.B6 : List Nat := [0, 0, 3, 7, 0, 0, 48, 112, 255, 511]
theorem laws_eqEntryS.tab6 : rtab .any (opsOf Try.f11 6) = laws_eqEntryS.T6 := by kernel_rfl
theorem laws_eqEntryS.bits6 : waitsOk laws_eqEntryS.T6.2 laws_eqEntryS.B6 = true := by kernel_rfl
set_option maxHeartbeats 8000000 in
set_option maxRecDepth 100000 in
theorem laws_eqEntryS.calls (k : Nat) (A0 : Option Addr) (c0 : Nat) (l0 : List (S51)) (A1 : Option Addr) (c1 : Nat) (l1 : List (S51)) (r : Bool) (w : World) (hr0 : Kd.C k51 w A0 l0.length l0) (hc0 : l0.length ≤ c0) (hr1 : Kd.C k51 w A1 l1.length l1) (hc1 : l1.length ≤ c1) (h : laws_eqEntryS.f k l0 l1 = some r) :
  Calls Try.prog 11 #[.slice A0 l0.length c0, .slice A1 l1.length c1] w fun e w' => e = .returned (.bool r) ∧ Below w.heap.size w w' := by
 have hu51 := Try.underlying51
 have HR0 := Aside0.mk hr0
 have HC0 := Aside0.mk hc0
 clear hr0 hc0
 have HR1 := Aside0.mk hr1
 have HC1 := Aside0.mk hc1
 clear hr1 hc1
 have HB := mK (Below.refl w.heap.size w)
 have H : (if (l0.length : Int) = (l1.length : Int) then (laws_eqEntryS.l0 k l0 l1 0) else (some false)) = some r := h
 clear h
 by_cases c3 : (l0.length : Int) = (l1.length : Int)
 ·rw [if_pos c3] at H
  have c3b0 : ((l0.length : Int) == (l1.length : Int)) = true := beq_iff_eq.mpr c3; have c3b1 : ((l0.length : Int) != (l1.length : Int)) = false := bne_eq_false_iff_eq.mpr c3
  have c3b2 : (l0.length == l1.length) = true := by first | simpa using c3 | (simp at c3 ⊢; omega)
  clear c3; have H' := Aside0.mk H; clear H
  go_enter Try.func11, Try.ntmps11
  go_wp2
  go_loopg [5] k (fun kq v5 w' => ∃ (x5_1 : Int), v5 = .int .i64 x5_1 ∧ Aside0 (laws_eqEntryS.l0 kq l0 l1 x5_1 = some r) ∧ Aside0 (kq ≤ k) ∧ Aside0 (Below w.heap.size w w'))
  case atStart => exact ⟨(0), (by first | rfl | (simp; done) | (simp [*]; done)), H', ⟨Nat.le_refl _⟩, ⟨by repeat (first | (with_reducible first | exact HB.out | apply below_alloc | apply pw_below_drewN | apply below_drew1) | exact HB.out)⟩⟩
  case round =>
   clear H'
   try clear c1
   try clear p2
   try clear c3
   try clear c3b0
   try clear c3b1
   try clear c3b2
   obtain ⟨x5_1, rfl, HA, HK1, HB⟩ := hrel
   cases gk with
   | zero => exact absurd HA.out (by simp [laws_eqEntryS.l0])
   | succ k1 =>
    have H := HA.out; clear HA; simp only [laws_eqEntryS.l0] at H
    by_cases c4 : x5_1 < (l0.length : Int)
    ·rw [if_pos c4] at H
     have c4b0 : decide (x5_1 < (l0.length : Int)) = true := decide_eq_true c4; clear c4
     by_cases c5 : 0 ≤ x5_1
     ·rw [if_pos c5] at H
      have c5b0 : decide (0 ≤ x5_1) = true := decide_eq_true c5; clear c5
      by_cases c6 : x5_1 < (l1.length : Int)
      ·rw [if_pos c6] at H
       have c6b0 : decide (x5_1 < (l1.length : Int)) = true := decide_eq_true c6; clear c6; replace H := Option.bind_eq_some_iff.mp H; obtain ⟨t374, A70, H⟩ := H; (try dsimp only at H); have A7 := Aside0.mk A70; clear A70
       by_cases c8 : t374 = true
       ·subst c8
        have H1 : (laws_eqEntryS.l0 k1 l0 l1 (wrap64 (x5_1 + 1))) = some r := by rw [if_pos rfl] at H; exact H
        clear H; have H := H1; clear H1; have H' := Aside0.mk H; clear H
        try go_wp2
        have n0_ := mK (below_drew1 HB.out); clear HB; have HB := n0_; clear n0_; have p372 : 0 ≤ (x5_1 : Int) := of_decide_eq_true (by first | (with_reducible assumption) | assumption); have q372 : x5_1 < (l0.length : Int) := of_decide_eq_true (by first | (with_reducible assumption) | assumption); obtain ⟨ad372, A372_7, c372_7, e372, hx372_0, hx372_1, hx372_2, hx372_3, hx372_4, hx372_5, hx372_6, hx372_7, hx372_8, hl372_7, hi372_7⟩ := at_T51 HR0.out x5_1 p372 q372; have hw372_8 := hx372_8; have hw372_7 := hx372_7; have hw372_6 := hx372_6; have hw372_5 := hx372_5; have hw372_4 := hx372_4; have hw372_3 := hx372_3; have hw372_2 := hx372_2; have hw372_1 := hx372_1; have hw372_0 := hx372_0
        cases e372
        try (replace hx372_0 := (HB.out.cell (World.block_lt_of_cell? w _ hx372_0)).trans hx372_0)
        try (replace hx372_1 := (HB.out.cell (World.block_lt_of_cell? w _ hx372_1)).trans hx372_1)
        try (replace hx372_2 := (HB.out.cell (World.block_lt_of_cell? w _ hx372_2)).trans hx372_2)
        try (replace hx372_3 := (HB.out.cell (World.block_lt_of_cell? w _ hx372_3)).trans hx372_3)
        try (replace hx372_4 := (HB.out.cell (World.block_lt_of_cell? w _ hx372_4)).trans hx372_4)
        try (replace hx372_5 := (HB.out.cell (World.block_lt_of_cell? w _ hx372_5)).trans hx372_5)
        try (replace hx372_6 := (HB.out.cell (World.block_lt_of_cell? w _ hx372_6)).trans hx372_6)
        try (replace hx372_7 := (HB.out.cell (World.block_lt_of_cell? w _ hx372_7)).trans hx372_7)
        try (replace hx372_8 := (HB.out.cell (World.block_lt_of_cell? w _ hx372_8)).trans hx372_8)
        have HR372_7 := Aside0.mk hi372_7; have HC372_7 := Aside0.mk hl372_7; clear hi372_7 hl372_7; replace p372 := eq_true p372; replace q372 := eq_true q372; have p373 : 0 ≤ (x5_1 : Int) := of_decide_eq_true (by first | (with_reducible assumption) | assumption); have q373 : x5_1 < (l1.length : Int) := of_decide_eq_true (by first | (with_reducible assumption) | assumption); obtain ⟨ad373, A373_7, c373_7, e373, hx373_0, hx373_1, hx373_2, hx373_3, hx373_4, hx373_5, hx373_6, hx373_7, hx373_8, hl373_7, hi373_7⟩ := at_T51 HR1.out x5_1 p373 q373; have hw373_8 := hx373_8; have hw373_7 := hx373_7; have hw373_6 := hx373_6; have hw373_5 := hx373_5; have hw373_4 := hx373_4; have hw373_3 := hx373_3; have hw373_2 := hx373_2; have hw373_1 := hx373_1; have hw373_0 := hx373_0
        cases e373
        try (replace hx373_0 := (HB.out.cell (World.block_lt_of_cell? w _ hx373_0)).trans hx373_0)
        try (replace hx373_1 := (HB.out.cell (World.block_lt_of_cell? w _ hx373_1)).trans hx373_1)
        try (replace hx373_2 := (HB.out.cell (World.block_lt_of_cell? w _ hx373_2)).trans hx373_2)
        try (replace hx373_3 := (HB.out.cell (World.block_lt_of_cell? w _ hx373_3)).trans hx373_3)
        try (replace hx373_4 := (HB.out.cell (World.block_lt_of_cell? w _ hx373_4)).trans hx373_4)
        try (replace hx373_5 := (HB.out.cell (World.block_lt_of_cell? w _ hx373_5)).trans hx373_5)
        try (replace hx373_6 := (HB.out.cell (World.block_lt_of_cell? w _ hx373_6)).trans hx373_6)
        try (replace hx373_7 := (HB.out.cell (World.block_lt_of_cell? w _ hx373_7)).trans hx373_7)
        try (replace hx373_8 := (HB.out.cell (World.block_lt_of_cell? w _ hx373_8)).trans hx373_8)
        have HR373_7 := Aside0.mk hi373_7; have HC373_7 := Aside0.mk hl373_7; clear hi373_7 hl373_7; replace p373 := eq_true p373; replace q373 := eq_true q373
        refine start_ (n := 10) (S := fun w' => w'.cell? (ad372.add ((x5_1).toNat * 9)) = some (.string ((rd_T51 l0 x5_1).f0)) ∧ w'.cell? ⟨(ad372.add ((x5_1).toNat * 9)).block, (ad372.add ((x5_1).toNat * 9)).off + 1, none⟩ = some (.int .i64 ((rd_T51 l0 x5_1).f1)) ∧ w'.cell? ⟨(ad372.add ((x5_1).toNat * 9)).block, (ad372.add ((x5_1).toNat * 9)).off + 2, none⟩ = some (.int .i64 ((rd_T51 l0 x5_1).f2)) ∧ w'.cell? ⟨(ad372.add ((x5_1).toNat * 9)).block, (ad372.add ((x5_1).toNat * 9)).off + 3, none⟩ = some (.int .i64 ((rd_T51 l0 x5_1).f3.f0)) ∧ w'.cell? ⟨(ad372.add ((x5_1).toNat * 9)).block, (ad372.add ((x5_1).toNat * 9)).off + 4, none⟩ = some (.int .i64 ((rd_T51 l0 x5_1).f3.f1)) ∧ w'.cell? ⟨(ad372.add ((x5_1).toNat * 9)).block, (ad372.add ((x5_1).toNat * 9)).off + 5, none⟩ = some (.int .i64 ((rd_T51 l0 x5_1).f3.f2)) ∧ w'.cell? ⟨(ad372.add ((x5_1).toNat * 9)).block, (ad372.add ((x5_1).toNat * 9)).off + 6, none⟩ = some (.int .i64 ((rd_T51 l0 x5_1).f3.f3)) ∧ w'.cell? ⟨(ad372.add ((x5_1).toNat * 9)).block, (ad372.add ((x5_1).toNat * 9)).off + 7, none⟩ = some (.slice A372_7 ((rd_T51 l0 x5_1).f3.f4).length c372_7) ∧ w'.cell? ⟨(ad372.add ((x5_1).toNat * 9)).block, (ad372.add ((x5_1).toNat * 9)).off + 8, none⟩ = some (.bool ((rd_T51 l0 x5_1).f3.f5)) ∧ w'.cell? (ad373.add ((x5_1).toNat * 9)) = some (.string ((rd_T51 l1 x5_1).f0)) ∧ w'.cell? ⟨(ad373.add ((x5_1).toNat * 9)).block, (ad373.add ((x5_1).toNat * 9)).off + 1, none⟩ = some (.int .i64 ((rd_T51 l1 x5_1).f1)) ∧ w'.cell? ⟨(ad373.add ((x5_1).toNat * 9)).block, (ad373.add ((x5_1).toNat * 9)).off + 2, none⟩ = some (.int .i64 ((rd_T51 l1 x5_1).f2)) ∧ w'.cell? ⟨(ad373.add ((x5_1).toNat * 9)).block, (ad373.add ((x5_1).toNat * 9)).off + 3, none⟩ = some (.int .i64 ((rd_T51 l1 x5_1).f3.f0)) ∧ w'.cell? ⟨(ad373.add ((x5_1).toNat * 9)).block, (ad373.add ((x5_1).toNat * 9)).off + 4, none⟩ = some (.int .i64 ((rd_T51 l1 x5_1).f3.f1)) ∧ w'.cell? ⟨(ad373.add ((x5_1).toNat * 9)).block, (ad373.add ((x5_1).toNat * 9)).off + 5, none⟩ = some (.int .i64 ((rd_T51 l1 x5_1).f3.f2)) ∧ w'.cell? ⟨(ad373.add ((x5_1).toNat * 9)).block, (ad373.add ((x5_1).toNat * 9)).off + 6, none⟩ = some (.int .i64 ((rd_T51 l1 x5_1).f3.f3)) ∧ w'.cell? ⟨(ad373.add ((x5_1).toNat * 9)).block, (ad373.add ((x5_1).toNat * 9)).off + 7, none⟩ = some (.slice A373_7 ((rd_T51 l1 x5_1).f3.f4).length c373_7) ∧ w'.cell? ⟨(ad373.add ((x5_1).toNat * 9)).block, (ad373.add ((x5_1).toNat * 9)).off + 8, none⟩ = some (.bool ((rd_T51 l1 x5_1).f3.f5))) (ds := []) bq16_0 (by kernel_rfl) rfl rfl ⟨((HB.out.cell (World.block_lt_of_cell? w _ hw372_0)).trans hw372_0), ((HB.out.cell (World.block_lt_of_cell? w _ hw372_1)).trans hw372_1), ((HB.out.cell (World.block_lt_of_cell? w _ hw372_2)).trans hw372_2), ((HB.out.cell (World.block_lt_of_cell? w _ hw372_3)).trans hw372_3), ((HB.out.cell (World.block_lt_of_cell? w _ hw372_4)).trans hw372_4), ((HB.out.cell (World.block_lt_of_cell? w _ hw372_5)).trans hw372_5), ((HB.out.cell (World.block_lt_of_cell? w _ hw372_6)).trans hw372_6), ((HB.out.cell (World.block_lt_of_cell? w _ hw372_7)).trans hw372_7), ((HB.out.cell (World.block_lt_of_cell? w _ hw372_8)).trans hw372_8), ((HB.out.cell (World.block_lt_of_cell? w _ hw373_0)).trans hw373_0), ((HB.out.cell (World.block_lt_of_cell? w _ hw373_1)).trans hw373_1), ((HB.out.cell (World.block_lt_of_cell? w _ hw373_2)).trans hw373_2), ((HB.out.cell (World.block_lt_of_cell? w _ hw373_3)).trans hw373_3), ((HB.out.cell (World.block_lt_of_cell? w _ hw373_4)).trans hw373_4), ((HB.out.cell (World.block_lt_of_cell? w _ hw373_5)).trans hw373_5), ((HB.out.cell (World.block_lt_of_cell? w _ hw373_6)).trans hw373_6), ((HB.out.cell (World.block_lt_of_cell? w _ hw373_7)).trans hw373_7), ((HB.out.cell (World.block_lt_of_cell? w _ hw373_8)).trans hw373_8)⟩ (fun hHeld => ?_); refine with_tabW laws_eqEntryS.tab6 laws_eqEntryS.bits6 (fun HT_ HW_ => ?_)
        generalize wr.drew = w9 at HB HR372_7 HR373_7 hx372_0 hx372_1 hx372_2 hx372_3 hx372_4 hx372_5 hx372_6 hx372_7 hx372_8 hx373_0 hx373_1 hx373_2 hx373_3 hx373_4 hx373_5 hx373_6 hx373_7 hx373_8 hHeld ⊢; refine pure_ (i := 0) (N := some 17) (v := ?_) (a' := ?_) bq16_1 rfl rfl (any_of HT_.out (by kernel_rfl)) (fun _ _ _ h => h) (Or.inl ⟨by rfl, ?_⟩) ?_ ?_; rotate_left; · intro w'; go_simp; with_reducible rfl
        rotate_left; · simp only [Act.put, sq16_a, sq16_b, sq16_c, i64_w, i32_w]; rfl
        refine pure_ (i := 1) (N := some 18) (v := ?_) (a' := ?_) bq16_2 rfl rfl (any_of HT_.out (by kernel_rfl)) (fun _ _ _ h => h) (Or.inl ⟨by rfl, ?_⟩) ?_ ?_; rotate_left; · intro w'; go_simp; with_reducible rfl
        rotate_left; · simp only [Act.put, sq16_a, sq16_b, sq16_c, i64_w, i32_w]; rfl
        refine pure_ (i := 2) (N := some 19) (v := ?_) (a' := ?_) bq16_3 rfl rfl (any_of HT_.out (by kernel_rfl)) (fun _ _ _ h => h) (Or.inl ⟨by rfl, ?_⟩) ?_ ?_; rotate_left; · intro w'; go_simp; with_reducible rfl
        rotate_left; · simp only [Act.put, sq16_a, sq16_b, sq16_c, i64_w, i32_w]; rfl
        refine pure_ (i := 4) (N := some 21) (v := ?_) (a' := ?_) bq16_4 rfl rfl (any_of HT_.out (by kernel_rfl)) (fun _ _ _ h => h) (Or.inl ⟨by rfl, ?_⟩) ?_ ?_; rotate_left; · intro w'; go_simp; with_reducible rfl
        rotate_left; · simp only [Act.put, sq16_a, sq16_b, sq16_c, i64_w, i32_w]; rfl
        refine pure_ (i := 5) (N := some 22) (v := ?_) (a' := ?_) bq16_5 rfl rfl (any_of HT_.out (by kernel_rfl)) (fun _ _ _ h => h) (Or.inl ⟨by rfl, ?_⟩) ?_ ?_; rotate_left; · intro w'; go_simp; with_reducible rfl
        rotate_left; · simp only [Act.put, sq16_a, sq16_b, sq16_c, i64_w, i32_w]; rfl
        refine pure_ (i := 6) (N := some 23) (v := ?_) (a' := ?_) bq16_6 rfl rfl (any_of HT_.out (by kernel_rfl)) (fun _ _ _ h => h) (Or.inl ⟨by rfl, ?_⟩) ?_ ?_; rotate_left; · intro w'; go_simp; with_reducible rfl
        rotate_left; · simp only [Act.put, sq16_a, sq16_b, sq16_c, i64_w, i32_w]; rfl
        refine take_ (i := 3) (N := some 20) (v := ?_) (a' := ?_) bq16_7 rfl rfl (take_ofW HT_.out HW_.out (by kernel_rfl)) (fun _ _ _ h => h) (Or.inl ⟨by rfl, ?_⟩) hHeld ?_ ?_; rotate_left; · rintro w' ⟨s0, s1, s2, s3, s4, s5, s6, s7, s8, s9, s10, s11, s12, s13, s14, s15, s16, s17⟩; go_simp; with_reducible rfl
        rotate_left; · simp only [Act.put, sq16_a, sq16_b, sq16_c, i64_w, i32_w]; rfl
        refine take_ (i := 7) (N := some 24) (v := ?_) (a' := ?_) bq16_8 rfl rfl (take_ofW HT_.out HW_.out (by kernel_rfl)) (fun _ _ _ h => h) (Or.inl ⟨by rfl, ?_⟩) hHeld ?_ ?_; rotate_left; · rintro w' ⟨s0, s1, s2, s3, s4, s5, s6, s7, s8, s9, s10, s11, s12, s13, s14, s15, s16, s17⟩; go_simp; with_reducible rfl
        rotate_left; · simp only [Act.put, sq16_a, sq16_b, sq16_c, i64_w, i32_w]; rfl
        refine one_ (i := 8) (N := some 25) bq16_9 rfl rfl (one_of HT_.out (by kernel_rfl)) (by decide) (fun K hK => ?_); refine goes_ Try.func28 (by kernel_rfl) rfl #[.agg #[.string ((rd_T51 l0 x5_1).f0), .int .i64 ((rd_T51 l0 x5_1).f1), .int .i64 ((rd_T51 l0 x5_1).f2), .int .i64 ((rd_T51 l0 x5_1).f3.f0), .int .i64 ((rd_T51 l0 x5_1).f3.f1), .int .i64 ((rd_T51 l0 x5_1).f3.f2), .int .i64 ((rd_T51 l0 x5_1).f3.f3), .slice A372_7 ((rd_T51 l0 x5_1).f3.f4).length c372_7, .bool ((rd_T51 l0 x5_1).f3.f5)], .agg #[.string ((rd_T51 l1 x5_1).f0), .int .i64 ((rd_T51 l1 x5_1).f1), .int .i64 ((rd_T51 l1 x5_1).f2), .int .i64 ((rd_T51 l1 x5_1).f3.f0), .int .i64 ((rd_T51 l1 x5_1).f3.f1), .int .i64 ((rd_T51 l1 x5_1).f3.f2), .int .i64 ((rd_T51 l1 x5_1).f3.f3), .slice A373_7 ((rd_T51 l1 x5_1).f3.f4).length c373_7, .bool ((rd_T51 l1 x5_1).f3.f5)]] (by rfl) rfl rfl (by (try simp only [List.map_toArray, List.map_cons, List.map_nil]); first | done | rfl | (simp only [List.length_drop, List.length_take]; rfl)) ?_; (with_reducible refine (laws_eqEntry.calls k1 ((rd_T51 l0 x5_1).f0) ((rd_T51 l0 x5_1).f1) ((rd_T51 l0 x5_1).f2) ((rd_T51 l0 x5_1).f3.f0) ((rd_T51 l0 x5_1).f3.f1) ((rd_T51 l0 x5_1).f3.f2) ((rd_T51 l0 x5_1).f3.f3) _ _ ((rd_T51 l0 x5_1).f3.f4) ((rd_T51 l0 x5_1).f3.f5) ((rd_T51 l1 x5_1).f0) ((rd_T51 l1 x5_1).f1) ((rd_T51 l1 x5_1).f2) ((rd_T51 l1 x5_1).f3.f0) ((rd_T51 l1 x5_1).f3.f1) ((rd_T51 l1 x5_1).f3.f2) ((rd_T51 l1 x5_1).f3.f3) _ _ ((rd_T51 l1 x5_1).f3.f4) ((rd_T51 l1 x5_1).f3.f5) true _ ?side1 ?side2 ?side3 ?side4 A7.out).mono ?_); (case side1 => exact cK (Kd.C_below HR372_7.out HB.out)); (case side2 => exact HC372_7.out); (case side3 => exact cK (Kd.C_below HR373_7.out HB.out)); (case side4 => exact HC373_7.out); rintro e w10 ⟨rfl, hb⟩; refine ⟨_, rfl, ?_⟩; have n0_ := mK (below_step (bL HB.out) hb); clear HB; have HB := n0_; clear n0_; (try clear hb); (try clear hb2); (try clear hk); (try clear hi); refine hK.out _ _ ⟨((HB.out.cell (World.block_lt_of_cell? w _ hw372_0)).trans hw372_0), ((HB.out.cell (World.block_lt_of_cell? w _ hw372_1)).trans hw372_1), ((HB.out.cell (World.block_lt_of_cell? w _ hw372_2)).trans hw372_2), ((HB.out.cell (World.block_lt_of_cell? w _ hw372_3)).trans hw372_3), ((HB.out.cell (World.block_lt_of_cell? w _ hw372_4)).trans hw372_4), ((HB.out.cell (World.block_lt_of_cell? w _ hw372_5)).trans hw372_5), ((HB.out.cell (World.block_lt_of_cell? w _ hw372_6)).trans hw372_6), ((HB.out.cell (World.block_lt_of_cell? w _ hw372_7)).trans hw372_7), ((HB.out.cell (World.block_lt_of_cell? w _ hw372_8)).trans hw372_8), ((HB.out.cell (World.block_lt_of_cell? w _ hw373_0)).trans hw373_0), ((HB.out.cell (World.block_lt_of_cell? w _ hw373_1)).trans hw373_1), ((HB.out.cell (World.block_lt_of_cell? w _ hw373_2)).trans hw373_2), ((HB.out.cell (World.block_lt_of_cell? w _ hw373_3)).trans hw373_3), ((HB.out.cell (World.block_lt_of_cell? w _ hw373_4)).trans hw373_4), ((HB.out.cell (World.block_lt_of_cell? w _ hw373_5)).trans hw373_5), ((HB.out.cell (World.block_lt_of_cell? w _ hw373_6)).trans hw373_6), ((HB.out.cell (World.block_lt_of_cell? w _ hw373_7)).trans hw373_7), ((HB.out.cell (World.block_lt_of_cell? w _ hw373_8)).trans hw373_8)⟩ (fun hHeld => ?_)
        clear hK K; refine norm_ (a' := ?_) ?_ ?_; rotate_left
        ·show Act.put _ (some 25) _ = _
         simp only [Act.put, sq16_a, sq16_b, sq16_c, i64_w, i32_w]; rfl
        refine pure_ (i := 9) (N := some 26) (v := ?_) (a' := ?_) bq16_10 rfl rfl (any_of HT_.out (by kernel_rfl)) (fun _ _ _ h => h) (Or.inl ⟨by rfl, ?_⟩) ?_ ?_; rotate_left; · intro w'; go_simp; with_reducible rfl
        rotate_left; · simp only [Act.put, sq16_a, sq16_b, sq16_c, i64_w, i32_w]; rfl
        refine done_ (done_of HT_.out (by kernel_rfl)) ?_
        try go_wp2
        go_roundg k1
        case measure => have := HK1.out; omega
        case rel => exact ⟨(wrap64 (x5_1 + 1)), (by first | rfl | (simp; done) | (simp [*]; done)), H', ⟨by have := HK1.out; omega⟩, ⟨by repeat (first | (with_reducible first | exact HB.out | apply below_alloc | apply pw_below_drewN | apply below_drew1) | exact HB.out)⟩⟩
       ·replace c8 := Bool.eq_false_iff.mpr c8
        subst c8
        have H1 : (some false) = some r := by rw [if_neg (show ¬ (false = true) by decide)] at H; exact H
        clear H; have H := H1; clear H1; obtain rfl := Option.some.inj H
        try go_wp2
        have n0_ := mK (below_drew1 HB.out); clear HB; have HB := n0_; clear n0_; have p372 : 0 ≤ (x5_1 : Int) := of_decide_eq_true (by first | (with_reducible assumption) | assumption); have q372 : x5_1 < (l0.length : Int) := of_decide_eq_true (by first | (with_reducible assumption) | assumption); obtain ⟨ad372, A372_7, c372_7, e372, hx372_0, hx372_1, hx372_2, hx372_3, hx372_4, hx372_5, hx372_6, hx372_7, hx372_8, hl372_7, hi372_7⟩ := at_T51 HR0.out x5_1 p372 q372; have hw372_8 := hx372_8; have hw372_7 := hx372_7; have hw372_6 := hx372_6; have hw372_5 := hx372_5; have hw372_4 := hx372_4; have hw372_3 := hx372_3; have hw372_2 := hx372_2; have hw372_1 := hx372_1; have hw372_0 := hx372_0
        cases e372
        try (replace hx372_0 := (HB.out.cell (World.block_lt_of_cell? w _ hx372_0)).trans hx372_0)
        try (replace hx372_1 := (HB.out.cell (World.block_lt_of_cell? w _ hx372_1)).trans hx372_1)
        try (replace hx372_2 := (HB.out.cell (World.block_lt_of_cell? w _ hx372_2)).trans hx372_2)
        try (replace hx372_3 := (HB.out.cell (World.block_lt_of_cell? w _ hx372_3)).trans hx372_3)
        try (replace hx372_4 := (HB.out.cell (World.block_lt_of_cell? w _ hx372_4)).trans hx372_4)
        try (replace hx372_5 := (HB.out.cell (World.block_lt_of_cell? w _ hx372_5)).trans hx372_5)
        try (replace hx372_6 := (HB.out.cell (World.block_lt_of_cell? w _ hx372_6)).trans hx372_6)
        try (replace hx372_7 := (HB.out.cell (World.block_lt_of_cell? w _ hx372_7)).trans hx372_7)
        try (replace hx372_8 := (HB.out.cell (World.block_lt_of_cell? w _ hx372_8)).trans hx372_8)
        have HR372_7 := Aside0.mk hi372_7; have HC372_7 := Aside0.mk hl372_7; clear hi372_7 hl372_7; replace p372 := eq_true p372; replace q372 := eq_true q372; have p373 : 0 ≤ (x5_1 : Int) := of_decide_eq_true (by first | (with_reducible assumption) | assumption); have q373 : x5_1 < (l1.length : Int) := of_decide_eq_true (by first | (with_reducible assumption) | assumption); obtain ⟨ad373, A373_7, c373_7, e373, hx373_0, hx373_1, hx373_2, hx373_3, hx373_4, hx373_5, hx373_6, hx373_7, hx373_8, hl373_7, hi373_7⟩ := at_T51 HR1.out x5_1 p373 q373; have hw373_8 := hx373_8; have hw373_7 := hx373_7; have hw373_6 := hx373_6; have hw373_5 := hx373_5; have hw373_4 := hx373_4; have hw373_3 := hx373_3; have hw373_2 := hx373_2; have hw373_1 := hx373_1; have hw373_0 := hx373_0
        cases e373
        try (replace hx373_0 := (HB.out.cell (World.block_lt_of_cell? w _ hx373_0)).trans hx373_0)
        try (replace hx373_1 := (HB.out.cell (World.block_lt_of_cell? w _ hx373_1)).trans hx373_1)
        try (replace hx373_2 := (HB.out.cell (World.block_lt_of_cell? w _ hx373_2)).trans hx373_2)
        try (replace hx373_3 := (HB.out.cell (World.block_lt_of_cell? w _ hx373_3)).trans hx373_3)
        try (replace hx373_4 := (HB.out.cell (World.block_lt_of_cell? w _ hx373_4)).trans hx373_4)
        try (replace hx373_5 := (HB.out.cell (World.block_lt_of_cell? w _ hx373_5)).trans hx373_5)
        try (replace hx373_6 := (HB.out.cell (World.block_lt_of_cell? w _ hx373_6)).trans hx373_6)
        try (replace hx373_7 := (HB.out.cell (World.block_lt_of_cell? w _ hx373_7)).trans hx373_7)
        try (replace hx373_8 := (HB.out.cell (World.block_lt_of_cell? w _ hx373_8)).trans hx373_8)
        have HR373_7 := Aside0.mk hi373_7; have HC373_7 := Aside0.mk hl373_7; clear hi373_7 hl373_7; replace p373 := eq_true p373; replace q373 := eq_true q373
        refine start_ (n := 10) (S := fun w' => w'.cell? (ad372.add ((x5_1).toNat * 9)) = some (.string ((rd_T51 l0 x5_1).f0)) ∧ w'.cell? ⟨(ad372.add ((x5_1).toNat * 9)).block, (ad372.add ((x5_1).toNat * 9)).off + 1, none⟩ = some (.int .i64 ((rd_T51 l0 x5_1).f1)) ∧ w'.cell? ⟨(ad372.add ((x5_1).toNat * 9)).block, (ad372.add ((x5_1).toNat * 9)).off + 2, none⟩ = some (.int .i64 ((rd_T51 l0 x5_1).f2)) ∧ w'.cell? ⟨(ad372.add ((x5_1).toNat * 9)).block, (ad372.add ((x5_1).toNat * 9)).off + 3, none⟩ = some (.int .i64 ((rd_T51 l0 x5_1).f3.f0)) ∧ w'.cell? ⟨(ad372.add ((x5_1).toNat * 9)).block, (ad372.add ((x5_1).toNat * 9)).off + 4, none⟩ = some (.int .i64 ((rd_T51 l0 x5_1).f3.f1)) ∧ w'.cell? ⟨(ad372.add ((x5_1).toNat * 9)).block, (ad372.add ((x5_1).toNat * 9)).off + 5, none⟩ = some (.int .i64 ((rd_T51 l0 x5_1).f3.f2)) ∧ w'.cell? ⟨(ad372.add ((x5_1).toNat * 9)).block, (ad372.add ((x5_1).toNat * 9)).off + 6, none⟩ = some (.int .i64 ((rd_T51 l0 x5_1).f3.f3)) ∧ w'.cell? ⟨(ad372.add ((x5_1).toNat * 9)).block, (ad372.add ((x5_1).toNat * 9)).off + 7, none⟩ = some (.slice A372_7 ((rd_T51 l0 x5_1).f3.f4).length c372_7) ∧ w'.cell? ⟨(ad372.add ((x5_1).toNat * 9)).block, (ad372.add ((x5_1).toNat * 9)).off + 8, none⟩ = some (.bool ((rd_T51 l0 x5_1).f3.f5)) ∧ w'.cell? (ad373.add ((x5_1).toNat * 9)) = some (.string ((rd_T51 l1 x5_1).f0)) ∧ w'.cell? ⟨(ad373.add ((x5_1).toNat * 9)).block, (ad373.add ((x5_1).toNat * 9)).off + 1, none⟩ = some (.int .i64 ((rd_T51 l1 x5_1).f1)) ∧ w'.cell? ⟨(ad373.add ((x5_1).toNat * 9)).block, (ad373.add ((x5_1).toNat * 9)).off + 2, none⟩ = some (.int .i64 ((rd_T51 l1 x5_1).f2)) ∧ w'.cell? ⟨(ad373.add ((x5_1).toNat * 9)).block, (ad373.add ((x5_1).toNat * 9)).off + 3, none⟩ = some (.int .i64 ((rd_T51 l1 x5_1).f3.f0)) ∧ w'.cell? ⟨(ad373.add ((x5_1).toNat * 9)).block, (ad373.add ((x5_1).toNat * 9)).off + 4, none⟩ = some (.int .i64 ((rd_T51 l1 x5_1).f3.f1)) ∧ w'.cell? ⟨(ad373.add ((x5_1).toNat * 9)).block, (ad373.add ((x5_1).toNat * 9)).off + 5, none⟩ = some (.int .i64 ((rd_T51 l1 x5_1).f3.f2)) ∧ w'.cell? ⟨(ad373.add ((x5_1).toNat * 9)).block, (ad373.add ((x5_1).toNat * 9)).off + 6, none⟩ = some (.int .i64 ((rd_T51 l1 x5_1).f3.f3)) ∧ w'.cell? ⟨(ad373.add ((x5_1).toNat * 9)).block, (ad373.add ((x5_1).toNat * 9)).off + 7, none⟩ = some (.slice A373_7 ((rd_T51 l1 x5_1).f3.f4).length c373_7) ∧ w'.cell? ⟨(ad373.add ((x5_1).toNat * 9)).block, (ad373.add ((x5_1).toNat * 9)).off + 8, none⟩ = some (.bool ((rd_T51 l1 x5_1).f3.f5))) (ds := []) bq16_0 (by kernel_rfl) rfl rfl ⟨((HB.out.cell (World.block_lt_of_cell? w _ hw372_0)).trans hw372_0), ((HB.out.cell (World.block_lt_of_cell? w _ hw372_1)).trans hw372_1), ((HB.out.cell (World.block_lt_of_cell? w _ hw372_2)).trans hw372_2), ((HB.out.cell (World.block_lt_of_cell? w _ hw372_3)).trans hw372_3), ((HB.out.cell (World.block_lt_of_cell? w _ hw372_4)).trans hw372_4), ((HB.out.cell (World.block_lt_of_cell? w _ hw372_5)).trans hw372_5), ((HB.out.cell (World.block_lt_of_cell? w _ hw372_6)).trans hw372_6), ((HB.out.cell (World.block_lt_of_cell? w _ hw372_7)).trans hw372_7), ((HB.out.cell (World.block_lt_of_cell? w _ hw372_8)).trans hw372_8), ((HB.out.cell (World.block_lt_of_cell? w _ hw373_0)).trans hw373_0), ((HB.out.cell (World.block_lt_of_cell? w _ hw373_1)).trans hw373_1), ((HB.out.cell (World.block_lt_of_cell? w _ hw373_2)).trans hw373_2), ((HB.out.cell (World.block_lt_of_cell? w _ hw373_3)).trans hw373_3), ((HB.out.cell (World.block_lt_of_cell? w _ hw373_4)).trans hw373_4), ((HB.out.cell (World.block_lt_of_cell? w _ hw373_5)).trans hw373_5), ((HB.out.cell (World.block_lt_of_cell? w _ hw373_6)).trans hw373_6), ((HB.out.cell (World.block_lt_of_cell? w _ hw373_7)).trans hw373_7), ((HB.out.cell (World.block_lt_of_cell? w _ hw373_8)).trans hw373_8)⟩ (fun hHeld => ?_); refine with_tabW laws_eqEntryS.tab6 laws_eqEntryS.bits6 (fun HT_ HW_ => ?_)
        generalize wr.drew = w11 at HB HR372_7 HR373_7 hx372_0 hx372_1 hx372_2 hx372_3 hx372_4 hx372_5 hx372_6 hx372_7 hx372_8 hx373_0 hx373_1 hx373_2 hx373_3 hx373_4 hx373_5 hx373_6 hx373_7 hx373_8 hHeld ⊢; refine pure_ (i := 0) (N := some 17) (v := ?_) (a' := ?_) bq16_1 rfl rfl (any_of HT_.out (by kernel_rfl)) (fun _ _ _ h => h) (Or.inl ⟨by rfl, ?_⟩) ?_ ?_; rotate_left; · intro w'; go_simp; with_reducible rfl
        rotate_left; · simp only [Act.put, sq16_a, sq16_b, sq16_c, i64_w, i32_w]; rfl
        refine pure_ (i := 1) (N := some 18) (v := ?_) (a' := ?_) bq16_2 rfl rfl (any_of HT_.out (by kernel_rfl)) (fun _ _ _ h => h) (Or.inl ⟨by rfl, ?_⟩) ?_ ?_; rotate_left; · intro w'; go_simp; with_reducible rfl
        rotate_left; · simp only [Act.put, sq16_a, sq16_b, sq16_c, i64_w, i32_w]; rfl
        refine pure_ (i := 2) (N := some 19) (v := ?_) (a' := ?_) bq16_3 rfl rfl (any_of HT_.out (by kernel_rfl)) (fun _ _ _ h => h) (Or.inl ⟨by rfl, ?_⟩) ?_ ?_; rotate_left; · intro w'; go_simp; with_reducible rfl
        rotate_left; · simp only [Act.put, sq16_a, sq16_b, sq16_c, i64_w, i32_w]; rfl
        refine pure_ (i := 4) (N := some 21) (v := ?_) (a' := ?_) bq16_4 rfl rfl (any_of HT_.out (by kernel_rfl)) (fun _ _ _ h => h) (Or.inl ⟨by rfl, ?_⟩) ?_ ?_; rotate_left; · intro w'; go_simp; with_reducible rfl
        rotate_left; · simp only [Act.put, sq16_a, sq16_b, sq16_c, i64_w, i32_w]; rfl
        refine pure_ (i := 5) (N := some 22) (v := ?_) (a' := ?_) bq16_5 rfl rfl (any_of HT_.out (by kernel_rfl)) (fun _ _ _ h => h) (Or.inl ⟨by rfl, ?_⟩) ?_ ?_; rotate_left; · intro w'; go_simp; with_reducible rfl
        rotate_left; · simp only [Act.put, sq16_a, sq16_b, sq16_c, i64_w, i32_w]; rfl
        refine pure_ (i := 6) (N := some 23) (v := ?_) (a' := ?_) bq16_6 rfl rfl (any_of HT_.out (by kernel_rfl)) (fun _ _ _ h => h) (Or.inl ⟨by rfl, ?_⟩) ?_ ?_; rotate_left; · intro w'; go_simp; with_reducible rfl
        rotate_left; · simp only [Act.put, sq16_a, sq16_b, sq16_c, i64_w, i32_w]; rfl
        refine take_ (i := 3) (N := some 20) (v := ?_) (a' := ?_) bq16_7 rfl rfl (take_ofW HT_.out HW_.out (by kernel_rfl)) (fun _ _ _ h => h) (Or.inl ⟨by rfl, ?_⟩) hHeld ?_ ?_; rotate_left; · rintro w' ⟨s0, s1, s2, s3, s4, s5, s6, s7, s8, s9, s10, s11, s12, s13, s14, s15, s16, s17⟩; go_simp; with_reducible rfl
        rotate_left; · simp only [Act.put, sq16_a, sq16_b, sq16_c, i64_w, i32_w]; rfl
        refine take_ (i := 7) (N := some 24) (v := ?_) (a' := ?_) bq16_8 rfl rfl (take_ofW HT_.out HW_.out (by kernel_rfl)) (fun _ _ _ h => h) (Or.inl ⟨by rfl, ?_⟩) hHeld ?_ ?_; rotate_left; · rintro w' ⟨s0, s1, s2, s3, s4, s5, s6, s7, s8, s9, s10, s11, s12, s13, s14, s15, s16, s17⟩; go_simp; with_reducible rfl
        rotate_left; · simp only [Act.put, sq16_a, sq16_b, sq16_c, i64_w, i32_w]; rfl
        refine one_ (i := 8) (N := some 25) bq16_9 rfl rfl (one_of HT_.out (by kernel_rfl)) (by decide) (fun K hK => ?_); refine goes_ Try.func28 (by kernel_rfl) rfl #[.agg #[.string ((rd_T51 l0 x5_1).f0), .int .i64 ((rd_T51 l0 x5_1).f1), .int .i64 ((rd_T51 l0 x5_1).f2), .int .i64 ((rd_T51 l0 x5_1).f3.f0), .int .i64 ((rd_T51 l0 x5_1).f3.f1), .int .i64 ((rd_T51 l0 x5_1).f3.f2), .int .i64 ((rd_T51 l0 x5_1).f3.f3), .slice A372_7 ((rd_T51 l0 x5_1).f3.f4).length c372_7, .bool ((rd_T51 l0 x5_1).f3.f5)], .agg #[.string ((rd_T51 l1 x5_1).f0), .int .i64 ((rd_T51 l1 x5_1).f1), .int .i64 ((rd_T51 l1 x5_1).f2), .int .i64 ((rd_T51 l1 x5_1).f3.f0), .int .i64 ((rd_T51 l1 x5_1).f3.f1), .int .i64 ((rd_T51 l1 x5_1).f3.f2), .int .i64 ((rd_T51 l1 x5_1).f3.f3), .slice A373_7 ((rd_T51 l1 x5_1).f3.f4).length c373_7, .bool ((rd_T51 l1 x5_1).f3.f5)]] (by rfl) rfl rfl (by (try simp only [List.map_toArray, List.map_cons, List.map_nil]); first | done | rfl | (simp only [List.length_drop, List.length_take]; rfl)) ?_; (with_reducible refine (laws_eqEntry.calls k1 ((rd_T51 l0 x5_1).f0) ((rd_T51 l0 x5_1).f1) ((rd_T51 l0 x5_1).f2) ((rd_T51 l0 x5_1).f3.f0) ((rd_T51 l0 x5_1).f3.f1) ((rd_T51 l0 x5_1).f3.f2) ((rd_T51 l0 x5_1).f3.f3) _ _ ((rd_T51 l0 x5_1).f3.f4) ((rd_T51 l0 x5_1).f3.f5) ((rd_T51 l1 x5_1).f0) ((rd_T51 l1 x5_1).f1) ((rd_T51 l1 x5_1).f2) ((rd_T51 l1 x5_1).f3.f0) ((rd_T51 l1 x5_1).f3.f1) ((rd_T51 l1 x5_1).f3.f2) ((rd_T51 l1 x5_1).f3.f3) _ _ ((rd_T51 l1 x5_1).f3.f4) ((rd_T51 l1 x5_1).f3.f5) false _ ?side1 ?side2 ?side3 ?side4 A7.out).mono ?_); (case side1 => exact cK (Kd.C_below HR372_7.out HB.out)); (case side2 => exact HC372_7.out); (case side3 => exact cK (Kd.C_below HR373_7.out HB.out)); (case side4 => exact HC373_7.out); rintro e w12 ⟨rfl, hb⟩; refine ⟨_, rfl, ?_⟩; have n0_ := mK (below_step (bL HB.out) hb); clear HB; have HB := n0_; clear n0_; (try clear hb); (try clear hb2); (try clear hk); (try clear hi); refine hK.out _ _ ⟨((HB.out.cell (World.block_lt_of_cell? w _ hw372_0)).trans hw372_0), ((HB.out.cell (World.block_lt_of_cell? w _ hw372_1)).trans hw372_1), ((HB.out.cell (World.block_lt_of_cell? w _ hw372_2)).trans hw372_2), ((HB.out.cell (World.block_lt_of_cell? w _ hw372_3)).trans hw372_3), ((HB.out.cell (World.block_lt_of_cell? w _ hw372_4)).trans hw372_4), ((HB.out.cell (World.block_lt_of_cell? w _ hw372_5)).trans hw372_5), ((HB.out.cell (World.block_lt_of_cell? w _ hw372_6)).trans hw372_6), ((HB.out.cell (World.block_lt_of_cell? w _ hw372_7)).trans hw372_7), ((HB.out.cell (World.block_lt_of_cell? w _ hw372_8)).trans hw372_8), ((HB.out.cell (World.block_lt_of_cell? w _ hw373_0)).trans hw373_0), ((HB.out.cell (World.block_lt_of_cell? w _ hw373_1)).trans hw373_1), ((HB.out.cell (World.block_lt_of_cell? w _ hw373_2)).trans hw373_2), ((HB.out.cell (World.block_lt_of_cell? w _ hw373_3)).trans hw373_3), ((HB.out.cell (World.block_lt_of_cell? w _ hw373_4)).trans hw373_4), ((HB.out.cell (World.block_lt_of_cell? w _ hw373_5)).trans hw373_5), ((HB.out.cell (World.block_lt_of_cell? w _ hw373_6)).trans hw373_6), ((HB.out.cell (World.block_lt_of_cell? w _ hw373_7)).trans hw373_7), ((HB.out.cell (World.block_lt_of_cell? w _ hw373_8)).trans hw373_8)⟩ (fun hHeld => ?_)
        clear hK K; refine norm_ (a' := ?_) ?_ ?_; rotate_left
        ·show Act.put _ (some 25) _ = _
         simp only [Act.put, sq16_a, sq16_b, sq16_c, i64_w, i32_w]; rfl
        refine pure_ (i := 9) (N := some 26) (v := ?_) (a' := ?_) bq16_10 rfl rfl (any_of HT_.out (by kernel_rfl)) (fun _ _ _ h => h) (Or.inl ⟨by rfl, ?_⟩) ?_ ?_; rotate_left; · intro w'; go_simp; with_reducible rfl
        rotate_left; · simp only [Act.put, sq16_a, sq16_b, sq16_c, i64_w, i32_w]; rfl
        refine done_ (done_of HT_.out (by kernel_rfl)) ?_
        try go_wp2
        go_ret
        exact ⟨by first | rfl | (simp [errW_none, errW_some] <;> rfl) | (simp [*, errW_none, errW_some] <;> rfl), by repeat (first | (with_reducible first | exact HB.out | apply below_alloc | apply pw_below_drewN | apply below_drew1) | exact HB.out)⟩
      ·rw [if_neg c6] at H; exact absurd H (by simp)
     ·rw [if_neg c5] at H; exact absurd H (by simp)
    ·rw [if_neg c4] at H
     have c4b0 : decide (x5_1 < (l0.length : Int)) = false := decide_eq_false c4; clear c4; obtain rfl := Option.some.inj H
     go_wp2
     go_ret
     exact ⟨by first | rfl | (simp [errW_none, errW_some] <;> rfl) | (simp [*, errW_none, errW_some] <;> rfl), by repeat (first | (with_reducible first | exact HB.out | apply below_alloc | apply pw_below_drewN | apply below_drew1) | exact HB.out)⟩
 ·rw [if_neg c3] at H
  have c3b0 : ((l0.length : Int) == (l1.length : Int)) = false := beq_eq_false_iff_ne.mpr c3; have c3b1 : ((l0.length : Int) != (l1.length : Int)) = true := bne_iff_ne.mpr c3
  have c3b2 : (l0.length == l1.length) = false := by first | simpa using c3 | (simp at c3 ⊢; omega)
  obtain rfl := Option.some.inj H
  go_enter Try.func11, Try.ntmps11
  go_wp2
  go_ret
  exact ⟨by first | rfl | (simp [errW_none, errW_some] <;> rfl) | (simp [*, errW_none, errW_some] <;> rfl), by repeat (first | (with_reducible first | exact HB.out | apply below_alloc | apply pw_below_drewN | apply below_drew1) | exact HB.out)⟩

/-! ### laws_markText: function 29 -/
def laws_markText.l0 : Nat → Int → ByteArray → Option (ByteArray)
 | 0, _, _ => none
 | k + 1, x0, x3 => if x0 > 0 then ((some (([(wrap64 (48 + (Int.tmod x0 10))) % 256] : List Int) : List Int)).bind fun y375 => (if (strOfNums y375).size + x3.size ≤ 9223372036854775807 then (laws_markText.l0 k (wrap64 (Int.tdiv x0 10)) ((strOfNums y375) ++ x3)) else (none))) else (if 1 + x3.size ≤ 9223372036854775807 then (some ((⟨#[109]⟩ : ByteArray) ++ x3)) else (none))
def laws_markText.f (k : Nat) (a0 : Int) : Option (ByteArray) := if a0 ≤ 0 then (some (⟨#[109, 48]⟩ : ByteArray)) else (laws_markText.l0 k a0 (⟨#[]⟩ : ByteArray))
theorem laws_markText.mono_l : ∀ k, (∀ y0 y1, LeO (laws_markText.l0 k y0 y1) (laws_markText.l0 (k + 1) y0 y1))
 | 0 => fun _ _ r h => by simp [laws_markText.l0] at h
 | k + 1 => by
  have ih0 := laws_markText.mono_l k
  ·intro y0 y1
   unfold laws_markText.l0
   repeat' first
   | (with_reducible exact ih0 _ _)
   | (with_reducible exact LeO.refl _)
   | (with_reducible exact LeO.none _)
   | (with_reducible refine LeO.ite ?_ ?_)
   | (with_reducible refine LeO.bind ?_ (fun _ => ?_))
   | exact ih0 _ _
   | exact LeO.none _
   | refine LeO.ite ?_ ?_
   | refine LeO.bind ?_ (fun _ => ?_)
theorem laws_markText.mono : ∀ a0 k, LeO (laws_markText.f k a0) (laws_markText.f (k + 1) a0) := by
 intro a0 k
 have ih0 := laws_markText.mono_l k
 unfold laws_markText.f
 repeat' first
   | (with_reducible exact ih0 _ _)
   | (with_reducible exact LeO.refl _)
   | (with_reducible exact LeO.none _)
   | (with_reducible refine LeO.ite ?_ ?_)
   | (with_reducible refine LeO.bind ?_ (fun _ => ?_))
   | exact ih0 _ _
   | exact LeO.none _
   | refine LeO.ite ?_ ?_
   | refine LeO.bind ?_ (fun _ => ?_)
set_option maxHeartbeats 8000000 in
set_option maxRecDepth 100000 in
theorem laws_markText.calls (k : Nat) (a0 : Int) (r : ByteArray) (w : World) (h : laws_markText.f k a0 = some r) :
  Calls Try.prog 29 #[.int .i64 a0] w fun e w' => e = .returned (.string r) ∧ Below w.heap.size w w' := by
 have HB := mK (Below.refl w.heap.size w)
 have H : (if a0 ≤ 0 then (some (⟨#[109, 48]⟩ : ByteArray)) else (laws_markText.l0 k a0 (⟨#[]⟩ : ByteArray))) = some r := h
 clear h
 by_cases c2 : a0 ≤ 0
 ·rw [if_pos c2] at H
  have c2b0 : decide (a0 ≤ 0) = true := decide_eq_true c2; clear c2; obtain rfl := Option.some.inj H
  go_enter Try.func29, Try.ntmps29
  go_wp2
  go_ret
  exact ⟨by first | rfl | (simp [errW_none, errW_some] <;> rfl) | (simp [*, errW_none, errW_some] <;> rfl), by repeat (first | (with_reducible first | exact HB.out | apply below_alloc | apply pw_below_drewN | apply below_drew1) | exact HB.out)⟩
 ·rw [if_neg c2] at H
  have c2b0 : decide (a0 ≤ 0) = false := decide_eq_false c2; clear c2; have H' := Aside0.mk H; clear H
  go_enter Try.func29, Try.ntmps29
  go_wp2
  go_loopg [0, 3] k (fun kq v0 v3 w' => ∃ (x0_1 : Int) (x3_1 : ByteArray), v0 = .int .i64 x0_1 ∧ v3 = .string x3_1 ∧ Aside0 (laws_markText.l0 kq x0_1 x3_1 = some r) ∧ Aside0 (kq ≤ k) ∧ Aside0 (Below w.heap.size w w'))
  case atStart => exact ⟨(a0), ((⟨#[]⟩ : ByteArray)), (by first | rfl | (simp; done) | (simp [*]; done)), (by first | rfl | (simp; done) | (simp [*]; done)), H', ⟨Nat.le_refl _⟩, ⟨by repeat (first | (with_reducible first | exact HB.out | apply below_alloc | apply pw_below_drewN | apply below_drew1) | exact HB.out)⟩⟩
  case round =>
   clear H'
   try clear c2
   try clear c2b0
   try clear p2
   obtain ⟨x0_1, x3_1, rfl, rfl, HA, HK1, HB⟩ := hrel
   cases gk with
   | zero => exact absurd HA.out (by simp [laws_markText.l0])
   | succ k1 =>
    have H := HA.out; clear HA; simp only [laws_markText.l0] at H
    by_cases c3 : x0_1 > 0
    ·rw [if_pos c3] at H
     have c3b0 : decide (0 < x0_1) = true := decide_eq_true c3; clear c3; obtain ⟨y375, hy375⟩ : ∃ y_ : List Int, y_ = (([(wrap64 (48 + (Int.tmod x0_1 10))) % 256] : List Int)) := ⟨_, rfl⟩
     replace H : (if (strOfNums y375).size + x3_1.size ≤ 9223372036854775807 then (laws_markText.l0 k1 (wrap64 (Int.tdiv x0_1 10)) ((strOfNums y375) ++ x3_1)) else (none)) = some r := by first | (rw [hy375]; with_reducible exact H) | (have H2_ := (Option.bind_some _ _).symm.trans H; rw [hy375]; with_reducible exact H2_) | (have H2_ := (Option.bind_some _ _).symm.trans H; with_reducible exact H2_) | with_reducible exact H | (rw [hy375]; exact H) | exact H
     have Ny375 := Aside0.mk hy375; clear hy375
     by_cases c4 : (strOfNums y375).size + x3_1.size ≤ 9223372036854775807
     ·rw [if_pos c4] at H
      have c4b0 := eq_true c4; have c4b1 : decide ((strOfNums y375).size + x3_1.size ≤ 9223372036854775807) = true := decide_eq_true c4
      try have c4b2 : (9223372036854775807 < (strOfNums y375).size + x3_1.size) = False := eq_false (Nat.not_lt.2 c4)
      have H' := Aside0.mk H; clear H
      go_wp2_with (first | ((with_reducible refine gate_dst (N := 12) rfl ?_); refine Kd.R_lit (Kd.int .u8) _ 5 ?hg (N := 12) ?hd (xs := ([(wrap64 (48 + (Int.tmod x0_1 10))) % 256] : List Int)) (inner := [.int .u8 ((wrap64 (48 + (Int.tmod x0_1 10))) % 256)]) (ok := fun _ => True) (okp := fun _ => True) ?hr ?hp (fun _ hk => hk) trivial (Below.refl _ _) (Nat.le_refl _) (by simp) ?_; (case hd => rfl); (case hg => rfl); (case hr => first | (go_simp; done) | (go_simp; rfl)); (case hp => exact (Reps.one (show Kd.M (Kd.int .u8) _ _ _ ((wrap64 (48 + (Int.tmod x0_1 10))) % 256) [.int .u8 ((wrap64 (48 + (Int.tmod x0_1 10))) % 256)] from rfl) (Reps.none _ _))); intro v376 w5 ho6 hb hg_ hnew_; clear hg_ hnew_; (first | rw [← Ny375.out] at ho6 | (simp only [Int.reduceToNat] at ho6; rw [← Ny375.out] at ho6)); have _ := mK (Kd.R_lower ho6 (below_size (bL HB.out))); have _ := mK (below_step (bL HB.out) hb); clear HB; rename_i HO377 HB; clear hb ho6; have hcv7 := own_string (P := Try.prog) Try.underlying24 Try.underlying5 Try.underlying9 (Kd.own_of_R HO377.out)))
      go_roundg k1
      case measure => have := HK1.out; omega
      case rel => exact ⟨(wrap64 (Int.tdiv x0_1 10)), ((strOfNums y375) ++ x3_1), (by first | rfl | (simp; done) | (simp [*]; done)), (by first | rfl | (simp; done) | (simp [*]; done)), H', ⟨by have := HK1.out; omega⟩, ⟨by repeat (first | (with_reducible first | exact HB.out | apply below_alloc | apply pw_below_drewN | apply below_drew1) | exact HB.out)⟩⟩
     ·rw [if_neg c4] at H; exact absurd H (by simp)
    ·rw [if_neg c3] at H
     have c3b0 : decide (0 < x0_1) = false := decide_eq_false c3; clear c3
     by_cases c8 : 1 + x3_1.size ≤ 9223372036854775807
     ·rw [if_pos c8] at H
      have c8b0 := eq_true c8; have c8b1 : decide (1 + x3_1.size ≤ 9223372036854775807) = true := decide_eq_true c8
      try have c8b2 : (9223372036854775807 < 1 + x3_1.size) = False := eq_false (Nat.not_lt.2 c8)
      obtain rfl := Option.some.inj H
      go_wp2
      go_ret
      exact ⟨by first | rfl | (simp [errW_none, errW_some] <;> rfl) | (simp [*, errW_none, errW_some] <;> rfl), by repeat (first | (with_reducible first | exact HB.out | apply below_alloc | apply pw_below_drewN | apply below_drew1) | exact HB.out)⟩
     ·rw [if_neg c8] at H; exact absurd H (by simp)

/-! ### laws_markIntS: function 30 -/
def laws_markIntS.l0 : Nat → List Int → Int → Int → Option (Int × List Int)
 | 0, _, _, _ => none
 | k + 1, x0, x1, x5 => if x5 < (x0.length : Int) then (if 0 ≤ x5 then (laws_markIntS.l0 k (x0.set (x5 : Int).toNat x1) (wrap64 (x1 + 1)) (wrap64 (x5 + 1))) else (none)) else (some (x1, x0))
def laws_markIntS.f (k : Nat) (l0 : List Int) (a1 : Int) : Option (Int × List Int) := laws_markIntS.l0 k l0 a1 0
theorem laws_markIntS.mono_l : ∀ k, (∀ y0 y1 y2, LeO (laws_markIntS.l0 k y0 y1 y2) (laws_markIntS.l0 (k + 1) y0 y1 y2))
 | 0 => fun _ _ _ r h => by simp [laws_markIntS.l0] at h
 | k + 1 => by
  have ih0 := laws_markIntS.mono_l k
  ·intro y0 y1 y2
   unfold laws_markIntS.l0
   repeat' first
   | (with_reducible exact ih0 _ _ _)
   | (with_reducible exact LeO.refl _)
   | (with_reducible exact LeO.none _)
   | (with_reducible refine LeO.ite ?_ ?_)
   | (with_reducible refine LeO.bind ?_ (fun _ => ?_))
   | exact ih0 _ _ _
   | exact LeO.none _
   | refine LeO.ite ?_ ?_
   | refine LeO.bind ?_ (fun _ => ?_)
theorem laws_markIntS.mono : ∀ a0 a1 k, LeO (laws_markIntS.f k a0 a1) (laws_markIntS.f (k + 1) a0 a1) := by
 intro a0 a1 k
 have ih0 := laws_markIntS.mono_l k
 unfold laws_markIntS.f
 repeat' first
   | (with_reducible exact ih0 _ _ _)
   | (with_reducible exact LeO.refl _)
   | (with_reducible exact LeO.none _)
   | (with_reducible refine LeO.ite ?_ ?_)
   | (with_reducible refine LeO.bind ?_ (fun _ => ?_))
   | exact ih0 _ _ _
   | exact LeO.none _
   | refine LeO.ite ?_ ?_
   | refine LeO.bind ?_ (fun _ => ?_)
set_option maxHeartbeats 8000000 in
set_option maxRecDepth 100000 in
theorem laws_markIntS.calls (k : Nat) (P0_ : Nat → Prop) (u9000_ : Value) (l0 : List Int) (a1 : Int) (r1 : Int) (r2 : List Int) (w0 w : World) (hB : Below w0.heap.size w0 w) (ho0 : Kd.R (Kd.int .i64) 3 w w0.heap.size P0_ u9000_ l0) (h : laws_markIntS.f k l0 a1 = some (r1, r2)) :
  Calls Try.prog 30 #[u9000_, .int .i64 a1] w fun e w' => e = .returned (.int .i64 r1) ∧ Kd.R (Kd.int .i64) 3 w' w0.heap.size (fun k_ => (P0_ k_ ∨ w.heap.size ≤ k_)) u9000_ r2 ∧ Below w0.heap.size w0 w' ∧ Kept w w' (fun k_ => P0_ k_) := by
 have HO0 := mK (show Kd.R (Kd.int .i64) 3 w w0.heap.size (fun k_ => (P0_ k_ ∨ w.heap.size ≤ k_)) u9000_ l0 from Kd.R_mono ho0 (fun k_ hk => (.inl hk)))
 have HK := mK (Kept.refl w (fun k_ => P0_ k_))
 have HW0 := Aside0.mk hB.size
 have HB := Aside0.mk hB
 clear hB
 have H : (laws_markIntS.l0 k l0 a1 0) = some (r1, r2) := h
 clear h
 have H' := Aside0.mk H
 clear H
 go_enter Try.func30, Try.ntmps30
 go_wp2
 go_loopg [1, 5] k (fun kq v1 v5 w' => ∃ (x0_1 : List Int) (x1_1 : Int) (x5_1 : Int), v1 = .int .i64 x1_1 ∧ v5 = .int .i64 x5_1 ∧ Aside0 (laws_markIntS.l0 kq x0_1 x1_1 x5_1 = some (r1, r2)) ∧ Aside0 (kq ≤ k) ∧ Aside0 (Kd.R (Kd.int .i64) 3 w' w0.heap.size (fun k_ => (P0_ k_ ∨ w.heap.size ≤ k_)) u9000_ x0_1) ∧ Aside0 (Kept w w' (fun k_ => P0_ k_)) ∧ Aside0 (Below w0.heap.size w0 w'))
 case atStart => exact ⟨(l0), (a1), (0), (by first | rfl | (simp; done) | (simp [*]; done)), (by first | rfl | (simp; done) | (simp [*]; done)), H', ⟨Nat.le_refl _⟩, ⟨by (with_reducible repeat (first | apply Kd.R_alloc | apply Kd.R_drewN | apply Kd.R_drew)); exact HO0.out⟩, ⟨by repeat (first | (with_reducible first | exact HK.out | apply Kept.alloc | apply Kept.drewN | apply Kept.drew) | exact HK.out)⟩, ⟨by repeat (first | (with_reducible first | exact HB.out | apply below_alloc | apply pw_below_drewN | apply below_drew1) | exact HB.out)⟩⟩
 case round =>
  clear H'
  try clear p2
  obtain ⟨x0_1, x1_1, x5_1, rfl, rfl, HA, HK1, HO_0, HK, HB⟩ := hrel
  cases gk with
  | zero => exact absurd HA.out (by simp [laws_markIntS.l0])
  | succ k1 =>
   have H := HA.out; clear HA; simp only [laws_markIntS.l0] at H
   by_cases c3 : x5_1 < (x0_1.length : Int)
   ·rw [if_pos c3] at H
    have c3b0 : decide (x5_1 < (x0_1.length : Int)) = true := decide_eq_true c3; clear c3
    by_cases c4 : 0 ≤ x5_1
    ·rw [if_pos c4] at H
     have c4b0 : decide (0 ≤ x5_1) = true := decide_eq_true c4; clear c4; obtain ⟨y378, hy378⟩ : ∃ y_ : List Int, y_ = (x0_1.set (x5_1 : Int).toNat x1_1) := ⟨_, rfl⟩
     replace H : (laws_markIntS.l0 k1 y378 (wrap64 (x1_1 + 1)) (wrap64 (x5_1 + 1))) = some (r1, r2) := by first | (rw [hy378]; with_reducible exact H) | (have H2_ := (Option.bind_some _ _).symm.trans H; rw [hy378]; with_reducible exact H2_) | (have H2_ := (Option.bind_some _ _).symm.trans H; with_reducible exact H2_) | with_reducible exact H | (rw [hy378]; exact H) | exact H
     have Ny378 := Aside0.mk hy378; clear hy378; have H' := Aside0.mk H; clear H; obtain ⟨Ao6, co6, eo6⟩ := Kd.R_slice HO_0.out; subst eo6; have p5 : 0 ≤ (x5_1 : Int) := of_decide_eq_true (by first | (with_reducible assumption) | assumption); have q5 : (x5_1 : Int) < ((x0_1.length : Int) : Int) := of_decide_eq_true (by first | (with_reducible assumption) | assumption); obtain ⟨go5, co5, eo5, gb5, gl5, cl5, HG5⟩ := Kd.R_form HO_0.out (by omega); (first | cases eo5 | (injection eo5 with ea_ en_ ec_; (first | subst ea_ | (injection ea_ with ea_; subst ea_)); subst ec_; clear en_)); have GB5 := Aside0.mk gb5; have GG5 := Aside0.mk HG5; clear gb5 gl5 HG5; have HMgo5 := mK (show (P0_ go5 ∨ w.heap.size ≤ go5) from (HO_0.out.1 _ rfl)); obtain ⟨hx5_0, hf5_0⟩ := Kd.R_celln 0 HO_0.out (x5_1 : Int) p5 q5; replace p5 := eq_true p5; replace q5 := eq_true q5; have HP7 := Kd.R_putg HO_0.out (x5_1 : Int) x1_1
     go_wp2_with (first | ((with_reducible refine gate_store (t := 3) (p := 15) rfl ?_); refine store_event (t := 3) (p := 15) (v := ?vo_w8) (w1 := (wr.setCell ⟨go5, (x5_1 : Int).toNat, none⟩ (.int .i64 x1_1))) ?hg ?ho ?hn ?hr ?_; (case ho => rfl); (case hg => rfl); (case hn => rfl); (case hr => first | (go_simp; done) | (go_simp; rfl)); intro w8 hw; have hg : wr.grownBy w8 (some go5) := (by rw [hw]; exact HP7.2); have hp_ : Kd.R (Kd.int .i64) 3 w8 w0.heap.size (fun k_ => (P0_ k_ ∨ w.heap.size ≤ k_)) (.slice (some ⟨go5, 0, none⟩) x0_1.length co6) y378 := (by rw [hw, Ny378.out]; exact HP7.1); clear HP7; have _ := mK (hp_); have _ := mK ((by rw [hw]; exact below_set (HB.out) GB5.out : Below w0.heap.size w0 w8)); have _ := mK (Kept.of_grown (S := (fun k_ => P0_ k_)) hg (by repeat (first | (with_reducible first | exact HK.out | apply Kept.alloc | apply Kept.drewN | apply Kept.drew) | exact HK.out)) (fun k_ e_ => (HO_0.out.1 k_ e_))); clear HO_0 HB HK; rename_i HO_0 HB HK; clear hg hw hp_))
     go_roundg k1
     case measure => have := HK1.out; omega
     case rel => exact ⟨(y378), (wrap64 (x1_1 + 1)), (wrap64 (x5_1 + 1)), (by first | rfl | (simp; done) | (simp [*]; done)), (by first | rfl | (simp; done) | (simp [*]; done)), H', ⟨by have := HK1.out; omega⟩, ⟨by (with_reducible repeat (first | apply Kd.R_alloc | apply Kd.R_drewN | apply Kd.R_drew)); exact HO_0.out⟩, ⟨by repeat (first | (with_reducible first | exact HK.out | apply Kept.alloc | apply Kept.drewN | apply Kept.drew) | exact HK.out)⟩, ⟨by repeat (first | (with_reducible first | exact HB.out | apply below_alloc | apply pw_below_drewN | apply below_drew1) | exact HB.out)⟩⟩
    ·rw [if_neg c4] at H; exact absurd H (by simp)
   ·rw [if_neg c3] at H
    have c3b0 : decide (x5_1 < (x0_1.length : Int)) = false := decide_eq_false c3; clear c3; simp only [Option.some.injEq, Prod.mk.injEq] at H; obtain ⟨rfl, rfl⟩ := H; obtain ⟨Ao9, co9, eo9⟩ := Kd.R_slice HO_0.out; subst eo9
    go_wp2
    go_ret
    exact ⟨by first | rfl | (simp [errW_none, errW_some] <;> rfl) | (simp [*, errW_none, errW_some] <;> rfl), by (with_reducible repeat (first | apply Kd.R_alloc | apply Kd.R_drewN | apply Kd.R_drew)); exact HO_0.out, by repeat (first | (with_reducible first | exact HB.out | apply below_alloc | apply pw_below_drewN | apply below_drew1) | exact HB.out), by repeat (first | (with_reducible first | exact HK.out | apply Kept.alloc | apply Kept.drewN | apply Kept.drew) | exact HK.out)⟩

/-! ### laws_markEntryS: function 12, by hand -/
def laws_markEntryS.l (k : Nat) : List (S51) → Int → Option (Int × List (S51))
 | [], a => some (a, [])
 | x :: t, a => (laws_markText.f k a).bind fun t1 => (laws_markIntS.f k x.f3.f4 (wrap64 ((wrap64 ((wrap64 ((wrap64 ((wrap64 ((wrap64 ((wrap64 (a + 1)) + 1)) + 1)) + 1)) + 1)) + 1)) + 1))).bind fun p => (laws_markEntryS.l k t (wrap64 (p.1 + 1))).bind fun q => some (q.1, ⟨t1, wrap64 (a + 1), wrap64 ((wrap64 (a + 1)) + 1), ⟨wrap64 ((wrap64 ((wrap64 (a + 1)) + 1)) + 1), wrap64 ((wrap64 ((wrap64 ((wrap64 (a + 1)) + 1)) + 1)) + 1), wrap64 ((wrap64 ((wrap64 ((wrap64 ((wrap64 (a + 1)) + 1)) + 1)) + 1)) + 1), wrap64 ((wrap64 ((wrap64 ((wrap64 ((wrap64 ((wrap64 (a + 1)) + 1)) + 1)) + 1)) + 1)) + 1), p.2, decide (p.1.tmod 3 = 0)⟩⟩ :: q.2)
def laws_markEntryS.f (k : Nat) (l0 : List (S51)) (a1 : Int) : Option (Int × List (S51)) := if l0.length ≤ 1152921504606846976 then laws_markEntryS.l k l0 a1 else none
theorem laws_markEntryS.mono_l (k : Nat) : ∀ (l : List (S51)) (a : Int), LeO (laws_markEntryS.l k l a) (laws_markEntryS.l (k + 1) l a)
 | [], a => LeO.refl _
 | x :: t, a => LeO.bind (laws_markText.mono _ _) (fun _ => LeO.bind (laws_markIntS.mono _ _ _) (fun p => LeO.bind (laws_markEntryS.mono_l k t _) (fun q => LeO.refl _)))
theorem laws_markEntryS.mono : ∀ l0 a1 k, LeO (laws_markEntryS.f k l0 a1) (laws_markEntryS.f (k + 1) l0 a1) := by
 intro l0 a1 k
 unfold laws_markEntryS.f
 exact LeO.ite (laws_markEntryS.mono_l k _ _) (LeO.refl _)
theorem laws_markEntryS.set_far {w : World} {g i : Nat} (h : i ≠ g) (j : Nat) (u : Value) : (w.setCell ⟨g, j, none⟩ u).heap[i]? = w.heap[i]? := by
 show (w.heap.modify g _)[i]? = _
 rw [Array.getElem?_modify, if_neg (fun e => h e.symm)]
theorem laws_markEntryS.kept_set {w W : World} {S : Nat → Prop} (h : Kept w W S) {g : Nat} (hg : S g) (j : Nat) (u : Value) : Kept w (W.setCell ⟨g, j, none⟩ u) S := by
 refine ⟨?_, fun i hi hn => (laws_markEntryS.set_far (fun e => hn (by rw [e]; exact hg)) j u).trans (h.2 i hi hn)⟩
 show w.heap.size ≤ (W.heap.modify g _).size
 rw [Array.size_modify]; exact h.1
set_option maxHeartbeats 8000000 in
set_option maxRecDepth 100000 in
/-- the entries are marked, one after the other; they come back -/
theorem laws_markEntryS.calls (k : Nat) (P0_ : Nat → Prop) (u9000_ : Value) (l0 : List (S51)) (a1 : Int) (r1 : Int) (r2 : List (S51)) (w0 w : World) (hB : Below w0.heap.size w0 w) (ho0 : Kd.S k51 51 w w0.heap.size P0_ u9000_ l0) (h : laws_markEntryS.f k l0 a1 = some (r1, r2)) :
  Calls Try.prog 12 #[u9000_, .int .i64 a1] w fun e w' => e = .returned (.int .i64 r1) ∧ Kd.S k51 51 w' w0.heap.size (fun k_ => (P0_ k_ ∨ w.heap.size ≤ k_)) u9000_ r2 ∧ Below w0.heap.size w0 w' ∧ Kept w w' (fun k_ => P0_ k_) := by
 unfold laws_markEntryS.f at h
 by_cases hlen : l0.length ≤ 1152921504606846976
 ·rw [if_pos hlen] at h
  have hS0 := ho0; have hP0 := ho0; obtain ⟨Ao, co, eo⟩ := Kd.R_slice (Kd.S_R ho0); subst eo; have HS0 := Aside0.mk hS0; have HB0 := Aside0.mk hB; have H' := Aside0.mk h; clear ho0 h hB hS0 hP0
  go_enter Try.func12, Try.ntmps12
  go_wp2
  go_loopg [1, 5] l0.length (fun gg v1 v5 w' => ∃ (kk : Nat) (a : Int) (cur rest : List (S51)), kk ≤ l0.length ∧ l0.length - kk ≤ gg ∧ v1 = .int .i64 a ∧ v5 = .int .i64 kk ∧ Aside0 (laws_markEntryS.l k (l0.drop kk) a = some (r1, rest)) ∧ Aside0 (r2 = cur.take kk ++ rest) ∧ Aside0 (cur.drop kk = l0.drop kk) ∧ Aside0 (cur.length = l0.length) ∧ Aside0 (Kd.S k51 51 w' w0.heap.size P0_ (.slice Ao l0.length co) cur) ∧ Aside0 (Kept w w' (fun k_ => P0_ k_)) ∧ Aside0 (Below w0.heap.size w0 w'))
  case atStart => exact ⟨0, a1, l0, r2, Nat.zero_le _, by omega, rfl, rfl, H', ⟨by simp⟩, ⟨rfl⟩, ⟨rfl⟩, ⟨by (with_reducible repeat (first | apply Kd.S_alloc | apply Kd.S_drewN | apply Kd.S_drew)); exact HS0.out⟩, ⟨by repeat (first | exact Kept.refl _ _ | apply Kept.alloc | apply Kept.drewN | apply Kept.drew)⟩, ⟨by repeat (first | exact HB0.out | apply below_alloc | apply pw_below_drewN | apply below_drew1)⟩⟩
  case round =>
   clear H' HS0 HB0; obtain ⟨kk, a, cur, rest, hkk, hg, rfl, rfl, HA, HR2, HD, HL, HS, HW, HB⟩ := hrel
   by_cases hlt : kk < l0.length
   ·have hltz : (kk : Int) < (l0.length : Int) := by omega
    have hk0 : (0 : Int) ≤ (kk : Int) := by omega
    have hlc : kk < cur.length := by rw [HL.out]; exact hlt
    have hz : cur.getD ((kk : Int).toNat) z51 = l0[kk]'hlt := by
     have h1 := HD.out; rw [List.drop_eq_getElem_cons hlt, List.drop_eq_getElem_cons hlc] at h1
     simp [hlc, (List.cons.inj h1).1]
    have H := HA.out; clear HA; rw [List.drop_eq_getElem_cons hlt] at H; simp only [laws_markEntryS.l] at H; obtain ⟨t1, ht, H⟩ := Option.bind_eq_some_iff.mp H; obtain ⟨p, hp, H⟩ := Option.bind_eq_some_iff.mp H; obtain ⟨q, hq, H⟩ := Option.bind_eq_some_iff.mp H; obtain ⟨p1, p2⟩ := p; obtain ⟨q1, q2⟩ := q; simp only [Option.some.injEq, Prod.mk.injEq] at H; obtain ⟨e1, e2⟩ := H; subst e1; have HT := Aside0.mk ht; have HP := Aside0.mk hp; have H' := Aside0.mk hq; have HE := Aside0.mk e2; clear ht hp hq e2; obtain ⟨go, cap, eo, hgb, hgl, cells, hcells⟩ := Kd.S_form HS.out (by omega)
    injection eo with ea en ec
    subst ea; subst ec; clear en; have hPgo : P0_ go := (Kd.S_R HS.out).1 go rfl; obtain ⟨oki, c, _, hM, hcc, hoki, hH⟩ := Kd.S_lend HS.out z51 (kk : Int) hk0 hltz; rw [hz] at hM; obtain ⟨v1, rfl, hR⟩ := k51_openM hM; rw [show (k51).sz = 9 from rfl, Int.toNat_natCast] at hcc; obtain ⟨Ai, ci, ei⟩ := Kd.R_slice hR; subst ei; have HR3 := Aside0.mk hR; have HH := Aside0.mk hH; have HO := Aside0.mk hoki; have HC := Aside0.mk hcells; have HG := Aside0.mk hcc; obtain ⟨s0, hs0⟩ : ∃ s, (l0[kk]'hlt).f0 = s := ⟨_, rfl⟩; obtain ⟨s1, hs1⟩ : ∃ s, (l0[kk]'hlt).f1 = s := ⟨_, rfl⟩; obtain ⟨s2, hs2⟩ : ∃ s, (l0[kk]'hlt).f2 = s := ⟨_, rfl⟩; obtain ⟨s3, hs3⟩ : ∃ s, (l0[kk]'hlt).f3.f0 = s := ⟨_, rfl⟩; obtain ⟨s4, hs4⟩ : ∃ s, (l0[kk]'hlt).f3.f1 = s := ⟨_, rfl⟩; obtain ⟨s5, hs5⟩ : ∃ s, (l0[kk]'hlt).f3.f2 = s := ⟨_, rfl⟩; obtain ⟨s6, hs6⟩ : ∃ s, (l0[kk]'hlt).f3.f3 = s := ⟨_, rfl⟩; obtain ⟨s7, hs7⟩ : ∃ s, (l0[kk]'hlt).f3.f4 = s := ⟨_, rfl⟩; obtain ⟨s8, hs8⟩ : ∃ s, (l0[kk]'hlt).f3.f5 = s := ⟨_, rfl⟩; rw [hs0] at HH HG; rw [hs1] at HH HG; rw [hs2] at HH HG; rw [hs3] at HH HG; rw [hs4] at HH HG; rw [hs5] at HH HG; rw [hs6] at HH HG; rw [hs7] at HH HG HR3 HP; rw [hs8] at HH HG; clear hR hH hoki hcc hz hM hcells hs0 hs1 hs2 hs3 hs4 hs5 hs6 hs7 hs8
    go_wp2_with (first | ((with_reducible refine gate_callee (f := 29) rfl ?_); refine goesL_ (some 15) rfl rfl Try.func29 (by kernel_rfl) rfl #[.int .i64 a] rfl (by (try simp only [List.map_toArray, List.map_cons, List.map_nil]); first | done | rfl) ?_; (refine (laws_markText.calls k a t1 _ HT.out).mono ?_); rintro e w5 ⟨rfl, hb5⟩; refine ⟨_, rfl, ?_⟩; have HC5 := mK (blk_below (g := go) (o := .cells cells 51 (0, 0)) (by (with_reducible repeat (first | refine blk_drewN ?_ _ | refine blk_drew ?_)); exact HC.out) hb5); have HR5 := mK (Kd.R_below (by (with_reducible repeat (first | apply Kd.R_alloc | apply Kd.R_drewN | apply Kd.R_drew)); exact HR3.out) hb5); have HH5 := mK (Kd.H_below (by (with_reducible repeat (first | apply Kd.H_alloc | apply Kd.H_drewN | apply Kd.H_drew)); exact HH.out) hb5); have HB5 := mK (below_step (by repeat (first | exact HB.out | apply below_alloc | apply pw_below_drewN | apply below_drew1)) hb5); have HW5 := mK (Kept.below (S := fun k_ => P0_ k_) (by repeat (first | exact HW.out | apply Kept.alloc | apply Kept.drewN | apply Kept.drew)) hb5); have hx5 : w5.cell? ⟨go, kk * 9, none⟩ = some (.string s0) := ((Kd.H_at HH5.out hk0 hltz).1 0 _ rfl); have hf5 : w5.frozen? ⟨go, kk * 9, none⟩ = false := blk_frozen HC5.out _; clear hb5) | ((with_reducible refine gate_store (t := 9) (p := 17) rfl ?_); refine store_event (t := 9) (p := 17) (v := ?vo_0) (w1 := w5.setCell ⟨go, kk * 9, none⟩ (.string t1)) ?hg ?ho ?hn ?hr ?_; (case ho => rfl); (case hg => rfl); (case hn => rfl); (case hr => first | (go_simp; done) | (go_simp; rfl)); intro w6 hw; obtain ⟨cells6, hcl6⟩ : ∃ c, w6.heap[go]? = some (.cells c 51 (0, 0)) := ⟨_, by rw [hw]; exact blk_set HC5.out _ _⟩; have HC6 := Aside0.mk hcl6; clear hcl6; have HR6 := mK ((by rw [hw]; exact Kd.R_move HR5.out (fun i hi => laws_markEntryS.set_far (HO.out i hi).2 _ _)) : (Kd.int .i64).R 3 w6 w0.heap.size oki (.slice Ai s7.length ci) s7); have HH6 := mK ((by rw [hw]; exact (Kd.H_seg HH5.out hk0 hltz (seg := [.string t1]) (j := 0) (by show 0 + 1 ≤ 9; omega) (by intro q hq; rw [List.mem_singleton.1 hq]; rfl)).1) : Kd.H k51 51 w6 w0.heap.size P0_ (.slice (some ⟨go, 0, none⟩) l0.length co) cur (kk : Int) oki [.string t1, .int .i64 s1, .int .i64 s2, .int .i64 s3, .int .i64 s4, .int .i64 s5, .int .i64 s6, .slice Ai s7.length ci, .bool s8]); have HB6 := mK ((by rw [hw]; exact below_set HB5.out hgb) : Below w0.heap.size w0 w6); have HW6 := mK ((by rw [hw]; exact laws_markEntryS.kept_set HW5.out hPgo _ _) : Kept w w6 (fun k_ => P0_ k_)); clear hx5 hf5; have hx6 : w6.cell? ⟨go, kk * 9 + 1, none⟩ = some (.int .i64 s1) := ((Kd.H_at HH6.out hk0 hltz).1 1 _ rfl); have hf6 : w6.frozen? ⟨go, kk * 9 + 1, none⟩ = false := blk_frozen HC6.out _; clear hw) | ((with_reducible refine gate_store (t := 3) (p := 24) rfl ?_); refine store_event (t := 3) (p := 24) (v := ?vo_1) (w1 := w6.setCell ⟨go, kk * 9 + 1, none⟩ (.int .i64 (wrap64 (a + 1)))) ?hg ?ho ?hn ?hr ?_; (case ho => rfl); (case hg => rfl); (case hn => rfl); (case hr => first | (go_simp; done) | (go_simp; rfl)); intro w7 hw; obtain ⟨cells7, hcl7⟩ : ∃ c, w7.heap[go]? = some (.cells c 51 (0, 0)) := ⟨_, by rw [hw]; exact blk_set HC6.out _ _⟩; have HC7 := Aside0.mk hcl7; clear hcl7; have HR7 := mK ((by rw [hw]; exact Kd.R_move HR6.out (fun i hi => laws_markEntryS.set_far (HO.out i hi).2 _ _)) : (Kd.int .i64).R 3 w7 w0.heap.size oki (.slice Ai s7.length ci) s7); have HH7 := mK ((by rw [hw]; exact (Kd.H_seg HH6.out hk0 hltz (seg := [.int .i64 (wrap64 (a + 1))]) (j := 1) (by show 1 + 1 ≤ 9; omega) (by intro q hq; rw [List.mem_singleton.1 hq]; rfl)).1) : Kd.H k51 51 w7 w0.heap.size P0_ (.slice (some ⟨go, 0, none⟩) l0.length co) cur (kk : Int) oki [.string t1, .int .i64 (wrap64 (a + 1)), .int .i64 s2, .int .i64 s3, .int .i64 s4, .int .i64 s5, .int .i64 s6, .slice Ai s7.length ci, .bool s8]); have HB7 := mK ((by rw [hw]; exact below_set HB6.out hgb) : Below w0.heap.size w0 w7); have HW7 := mK ((by rw [hw]; exact laws_markEntryS.kept_set HW6.out hPgo _ _) : Kept w w7 (fun k_ => P0_ k_)); clear hx6 hf6; have hx7 : w7.cell? ⟨go, kk * 9 + 2, none⟩ = some (.int .i64 s2) := ((Kd.H_at HH7.out hk0 hltz).1 2 _ rfl); have hf7 : w7.frozen? ⟨go, kk * 9 + 2, none⟩ = false := blk_frozen HC7.out _; clear hw) | ((with_reducible refine gate_store (t := 3) (p := 31) rfl ?_); refine store_event (t := 3) (p := 31) (v := ?vo_2) (w1 := w7.setCell ⟨go, kk * 9 + 2, none⟩ (.int .i64 (wrap64 ((wrap64 (a + 1)) + 1)))) ?hg ?ho ?hn ?hr ?_; (case ho => rfl); (case hg => rfl); (case hn => rfl); (case hr => first | (go_simp; done) | (go_simp; rfl)); intro w8 hw; obtain ⟨cells8, hcl8⟩ : ∃ c, w8.heap[go]? = some (.cells c 51 (0, 0)) := ⟨_, by rw [hw]; exact blk_set HC7.out _ _⟩; have HC8 := Aside0.mk hcl8; clear hcl8; have HR8 := mK ((by rw [hw]; exact Kd.R_move HR7.out (fun i hi => laws_markEntryS.set_far (HO.out i hi).2 _ _)) : (Kd.int .i64).R 3 w8 w0.heap.size oki (.slice Ai s7.length ci) s7); have HH8 := mK ((by rw [hw]; exact (Kd.H_seg HH7.out hk0 hltz (seg := [.int .i64 (wrap64 ((wrap64 (a + 1)) + 1))]) (j := 2) (by show 2 + 1 ≤ 9; omega) (by intro q hq; rw [List.mem_singleton.1 hq]; rfl)).1) : Kd.H k51 51 w8 w0.heap.size P0_ (.slice (some ⟨go, 0, none⟩) l0.length co) cur (kk : Int) oki [.string t1, .int .i64 (wrap64 (a + 1)), .int .i64 (wrap64 ((wrap64 (a + 1)) + 1)), .int .i64 s3, .int .i64 s4, .int .i64 s5, .int .i64 s6, .slice Ai s7.length ci, .bool s8]); have HB8 := mK ((by rw [hw]; exact below_set HB7.out hgb) : Below w0.heap.size w0 w8); have HW8 := mK ((by rw [hw]; exact laws_markEntryS.kept_set HW7.out hPgo _ _) : Kept w w8 (fun k_ => P0_ k_)); clear hx7 hf7; have hx8 : w8.cell? ⟨go, kk * 9 + 3, none⟩ = some (.int .i64 s3) := ((Kd.H_at HH8.out hk0 hltz).1 3 _ rfl); have hf8 : w8.frozen? ⟨go, kk * 9 + 3, none⟩ = false := blk_frozen HC8.out _; clear hw) | ((with_reducible refine gate_store (t := 3) (p := 39) rfl ?_); refine store_event (t := 3) (p := 39) (v := ?vo_3) (w1 := w8.setCell ⟨go, kk * 9 + 3, none⟩ (.int .i64 (wrap64 ((wrap64 ((wrap64 (a + 1)) + 1)) + 1)))) ?hg ?ho ?hn ?hr ?_; (case ho => rfl); (case hg => rfl); (case hn => rfl); (case hr => first | (go_simp; done) | (go_simp; rfl)); intro w9 hw; obtain ⟨cells9, hcl9⟩ : ∃ c, w9.heap[go]? = some (.cells c 51 (0, 0)) := ⟨_, by rw [hw]; exact blk_set HC8.out _ _⟩; have HC9 := Aside0.mk hcl9; clear hcl9; have HR9 := mK ((by rw [hw]; exact Kd.R_move HR8.out (fun i hi => laws_markEntryS.set_far (HO.out i hi).2 _ _)) : (Kd.int .i64).R 3 w9 w0.heap.size oki (.slice Ai s7.length ci) s7); have HH9 := mK ((by rw [hw]; exact (Kd.H_seg HH8.out hk0 hltz (seg := [.int .i64 (wrap64 ((wrap64 ((wrap64 (a + 1)) + 1)) + 1))]) (j := 3) (by show 3 + 1 ≤ 9; omega) (by intro q hq; rw [List.mem_singleton.1 hq]; rfl)).1) : Kd.H k51 51 w9 w0.heap.size P0_ (.slice (some ⟨go, 0, none⟩) l0.length co) cur (kk : Int) oki [.string t1, .int .i64 (wrap64 (a + 1)), .int .i64 (wrap64 ((wrap64 (a + 1)) + 1)), .int .i64 (wrap64 ((wrap64 ((wrap64 (a + 1)) + 1)) + 1)), .int .i64 s4, .int .i64 s5, .int .i64 s6, .slice Ai s7.length ci, .bool s8]); have HB9 := mK ((by rw [hw]; exact below_set HB8.out hgb) : Below w0.heap.size w0 w9); have HW9 := mK ((by rw [hw]; exact laws_markEntryS.kept_set HW8.out hPgo _ _) : Kept w w9 (fun k_ => P0_ k_)); clear hx8 hf8; have hx9 : w9.cell? ⟨go, kk * 9 + 4, none⟩ = some (.int .i64 s4) := ((Kd.H_at HH9.out hk0 hltz).1 4 _ rfl); have hf9 : w9.frozen? ⟨go, kk * 9 + 4, none⟩ = false := blk_frozen HC9.out _; clear hw) | ((with_reducible refine gate_store (t := 3) (p := 47) rfl ?_); refine store_event (t := 3) (p := 47) (v := ?vo_4) (w1 := w9.setCell ⟨go, kk * 9 + 4, none⟩ (.int .i64 (wrap64 ((wrap64 ((wrap64 ((wrap64 (a + 1)) + 1)) + 1)) + 1)))) ?hg ?ho ?hn ?hr ?_; (case ho => rfl); (case hg => rfl); (case hn => rfl); (case hr => first | (go_simp; done) | (go_simp; rfl)); intro w10 hw; obtain ⟨cells10, hcl10⟩ : ∃ c, w10.heap[go]? = some (.cells c 51 (0, 0)) := ⟨_, by rw [hw]; exact blk_set HC9.out _ _⟩; have HC10 := Aside0.mk hcl10; clear hcl10; have HR10 := mK ((by rw [hw]; exact Kd.R_move HR9.out (fun i hi => laws_markEntryS.set_far (HO.out i hi).2 _ _)) : (Kd.int .i64).R 3 w10 w0.heap.size oki (.slice Ai s7.length ci) s7); have HH10 := mK ((by rw [hw]; exact (Kd.H_seg HH9.out hk0 hltz (seg := [.int .i64 (wrap64 ((wrap64 ((wrap64 ((wrap64 (a + 1)) + 1)) + 1)) + 1))]) (j := 4) (by show 4 + 1 ≤ 9; omega) (by intro q hq; rw [List.mem_singleton.1 hq]; rfl)).1) : Kd.H k51 51 w10 w0.heap.size P0_ (.slice (some ⟨go, 0, none⟩) l0.length co) cur (kk : Int) oki [.string t1, .int .i64 (wrap64 (a + 1)), .int .i64 (wrap64 ((wrap64 (a + 1)) + 1)), .int .i64 (wrap64 ((wrap64 ((wrap64 (a + 1)) + 1)) + 1)), .int .i64 (wrap64 ((wrap64 ((wrap64 ((wrap64 (a + 1)) + 1)) + 1)) + 1)), .int .i64 s5, .int .i64 s6, .slice Ai s7.length ci, .bool s8]); have HB10 := mK ((by rw [hw]; exact below_set HB9.out hgb) : Below w0.heap.size w0 w10); have HW10 := mK ((by rw [hw]; exact laws_markEntryS.kept_set HW9.out hPgo _ _) : Kept w w10 (fun k_ => P0_ k_)); clear hx9 hf9; have hx10 : w10.cell? ⟨go, kk * 9 + 5, none⟩ = some (.int .i64 s5) := ((Kd.H_at HH10.out hk0 hltz).1 5 _ rfl); have hf10 : w10.frozen? ⟨go, kk * 9 + 5, none⟩ = false := blk_frozen HC10.out _; clear hw) | ((with_reducible refine gate_store (t := 3) (p := 55) rfl ?_); refine store_event (t := 3) (p := 55) (v := ?vo_5) (w1 := w10.setCell ⟨go, kk * 9 + 5, none⟩ (.int .i64 (wrap64 ((wrap64 ((wrap64 ((wrap64 ((wrap64 (a + 1)) + 1)) + 1)) + 1)) + 1)))) ?hg ?ho ?hn ?hr ?_; (case ho => rfl); (case hg => rfl); (case hn => rfl); (case hr => first | (go_simp; done) | (go_simp; rfl)); intro w11 hw; obtain ⟨cells11, hcl11⟩ : ∃ c, w11.heap[go]? = some (.cells c 51 (0, 0)) := ⟨_, by rw [hw]; exact blk_set HC10.out _ _⟩; have HC11 := Aside0.mk hcl11; clear hcl11; have HR11 := mK ((by rw [hw]; exact Kd.R_move HR10.out (fun i hi => laws_markEntryS.set_far (HO.out i hi).2 _ _)) : (Kd.int .i64).R 3 w11 w0.heap.size oki (.slice Ai s7.length ci) s7); have HH11 := mK ((by rw [hw]; exact (Kd.H_seg HH10.out hk0 hltz (seg := [.int .i64 (wrap64 ((wrap64 ((wrap64 ((wrap64 ((wrap64 (a + 1)) + 1)) + 1)) + 1)) + 1))]) (j := 5) (by show 5 + 1 ≤ 9; omega) (by intro q hq; rw [List.mem_singleton.1 hq]; rfl)).1) : Kd.H k51 51 w11 w0.heap.size P0_ (.slice (some ⟨go, 0, none⟩) l0.length co) cur (kk : Int) oki [.string t1, .int .i64 (wrap64 (a + 1)), .int .i64 (wrap64 ((wrap64 (a + 1)) + 1)), .int .i64 (wrap64 ((wrap64 ((wrap64 (a + 1)) + 1)) + 1)), .int .i64 (wrap64 ((wrap64 ((wrap64 ((wrap64 (a + 1)) + 1)) + 1)) + 1)), .int .i64 (wrap64 ((wrap64 ((wrap64 ((wrap64 ((wrap64 (a + 1)) + 1)) + 1)) + 1)) + 1)), .int .i64 s6, .slice Ai s7.length ci, .bool s8]); have HB11 := mK ((by rw [hw]; exact below_set HB10.out hgb) : Below w0.heap.size w0 w11); have HW11 := mK ((by rw [hw]; exact laws_markEntryS.kept_set HW10.out hPgo _ _) : Kept w w11 (fun k_ => P0_ k_)); clear hx10 hf10; have hx11 : w11.cell? ⟨go, kk * 9 + 6, none⟩ = some (.int .i64 s6) := ((Kd.H_at HH11.out hk0 hltz).1 6 _ rfl); have hf11 : w11.frozen? ⟨go, kk * 9 + 6, none⟩ = false := blk_frozen HC11.out _; clear hw) | ((with_reducible refine gate_store (t := 3) (p := 63) rfl ?_); refine store_event (t := 3) (p := 63) (v := ?vo_6) (w1 := w11.setCell ⟨go, kk * 9 + 6, none⟩ (.int .i64 (wrap64 ((wrap64 ((wrap64 ((wrap64 ((wrap64 ((wrap64 (a + 1)) + 1)) + 1)) + 1)) + 1)) + 1)))) ?hg ?ho ?hn ?hr ?_; (case ho => rfl); (case hg => rfl); (case hn => rfl); (case hr => first | (go_simp; done) | (go_simp; rfl)); intro w12 hw; obtain ⟨cells12, hcl12⟩ : ∃ c, w12.heap[go]? = some (.cells c 51 (0, 0)) := ⟨_, by rw [hw]; exact blk_set HC11.out _ _⟩; have HC12 := Aside0.mk hcl12; clear hcl12; have HR12 := mK ((by rw [hw]; exact Kd.R_move HR11.out (fun i hi => laws_markEntryS.set_far (HO.out i hi).2 _ _)) : (Kd.int .i64).R 3 w12 w0.heap.size oki (.slice Ai s7.length ci) s7); have HH12 := mK ((by rw [hw]; exact (Kd.H_seg HH11.out hk0 hltz (seg := [.int .i64 (wrap64 ((wrap64 ((wrap64 ((wrap64 ((wrap64 ((wrap64 (a + 1)) + 1)) + 1)) + 1)) + 1)) + 1))]) (j := 6) (by show 6 + 1 ≤ 9; omega) (by intro q hq; rw [List.mem_singleton.1 hq]; rfl)).1) : Kd.H k51 51 w12 w0.heap.size P0_ (.slice (some ⟨go, 0, none⟩) l0.length co) cur (kk : Int) oki [.string t1, .int .i64 (wrap64 (a + 1)), .int .i64 (wrap64 ((wrap64 (a + 1)) + 1)), .int .i64 (wrap64 ((wrap64 ((wrap64 (a + 1)) + 1)) + 1)), .int .i64 (wrap64 ((wrap64 ((wrap64 ((wrap64 (a + 1)) + 1)) + 1)) + 1)), .int .i64 (wrap64 ((wrap64 ((wrap64 ((wrap64 ((wrap64 (a + 1)) + 1)) + 1)) + 1)) + 1)), .int .i64 (wrap64 ((wrap64 ((wrap64 ((wrap64 ((wrap64 ((wrap64 (a + 1)) + 1)) + 1)) + 1)) + 1)) + 1)), .slice Ai s7.length ci, .bool s8]); have HB12 := mK ((by rw [hw]; exact below_set HB11.out hgb) : Below w0.heap.size w0 w12); have HW12 := mK ((by rw [hw]; exact laws_markEntryS.kept_set HW11.out hPgo _ _) : Kept w w12 (fun k_ => P0_ k_)); clear hx11 hf11; have hx12 : w12.cell? ⟨go, kk * 9 + 7, none⟩ = some (.slice Ai s7.length ci) := ((Kd.H_at HH12.out hk0 hltz).1 7 _ rfl); have hf12 : w12.frozen? ⟨go, kk * 9 + 7, none⟩ = false := blk_frozen HC12.out _; clear hw) | ((with_reducible refine gate_callee (f := 30) rfl ?_); refine goesL_ (some 73) rfl rfl Try.func30 (by kernel_rfl) rfl #[.slice Ai s7.length ci, .int .i64 (wrap64 ((wrap64 ((wrap64 ((wrap64 ((wrap64 ((wrap64 ((wrap64 (a + 1)) + 1)) + 1)) + 1)) + 1)) + 1)) + 1))] rfl (by (try simp only [List.map_toArray, List.map_cons, List.map_nil]); first | done | rfl) ?_; (refine (laws_markIntS.calls k oki _ s7 (wrap64 ((wrap64 ((wrap64 ((wrap64 ((wrap64 ((wrap64 ((wrap64 (a + 1)) + 1)) + 1)) + 1)) + 1)) + 1)) + 1)) p1 p2 w0 _ (by repeat (first | exact HB12.out | apply below_alloc | apply pw_below_drewN | apply below_drew1)) (by (with_reducible repeat (first | apply Kd.R_alloc | apply Kd.R_drewN | apply Kd.R_drew)); exact HR12.out) HP.out).mono ?_); rintro e w13 ⟨rfl, hr13, hb13, hk13⟩; refine ⟨_, rfl, ?_⟩; have HC13 := mK (blk_kept (g := go) (o := .cells cells12 51 (0, 0)) (by (with_reducible repeat (first | refine blk_drewN ?_ _ | refine blk_drew ?_)); exact HC12.out) hk13 (fun hs => (HO.out go hs).2 rfl)); have HR13 := mK ((Kd.R_reok rfl hr13 (fun k_ hk => HR12.out.1 k_ hk)) : (Kd.int .i64).R 3 w13 w0.heap.size oki (.slice Ai s7.length ci) p2); have HH13 := mK ((Kd.H_kept (S := oki) (by (with_reducible repeat (first | apply Kd.H_alloc | apply Kd.H_drewN | apply Kd.H_drew)); exact HH12.out) hk13 (fun k_ _ hn => hn)) : Kd.H k51 51 w13 w0.heap.size P0_ (.slice (some ⟨go, 0, none⟩) l0.length co) cur (kk : Int) oki [.string t1, .int .i64 (wrap64 (a + 1)), .int .i64 (wrap64 ((wrap64 (a + 1)) + 1)), .int .i64 (wrap64 ((wrap64 ((wrap64 (a + 1)) + 1)) + 1)), .int .i64 (wrap64 ((wrap64 ((wrap64 ((wrap64 (a + 1)) + 1)) + 1)) + 1)), .int .i64 (wrap64 ((wrap64 ((wrap64 ((wrap64 ((wrap64 (a + 1)) + 1)) + 1)) + 1)) + 1)), .int .i64 (wrap64 ((wrap64 ((wrap64 ((wrap64 ((wrap64 ((wrap64 (a + 1)) + 1)) + 1)) + 1)) + 1)) + 1)), .slice Ai s7.length ci, .bool s8]); have HB13 := Aside0.mk hb13; have HW13 := mK (Kept.then_ (S := fun k_ => P0_ k_) (S2 := oki) (by repeat (first | exact HW12.out | apply Kept.alloc | apply Kept.drewN | apply Kept.drew)) hk13 (fun i hi => .inl (HO.out i hi).1)); clear hx12 hf12; have hx13 : w13.cell? ⟨go, kk * 9 + 8, none⟩ = some (.bool s8) := ((Kd.H_at HH13.out hk0 hltz).1 8 _ rfl); have hf13 : w13.frozen? ⟨go, kk * 9 + 8, none⟩ = false := blk_frozen HC13.out _; clear hr13 hb13 hk13) | ((with_reducible refine gate_store (t := 4) (p := 81) rfl ?_); refine store_event (t := 4) (p := 81) (v := ?vo_8) (w1 := w13.setCell ⟨go, kk * 9 + 8, none⟩ (.bool (decide (p1.tmod 3 = 0)))) ?hg ?ho ?hn ?hr ?_; (case ho => rfl); (case hg => rfl); (case hn => rfl); (case hr => first | (go_simp; done) | (go_simp; rfl)); intro w14 hw; obtain ⟨cells14, hcl14⟩ : ∃ c, w14.heap[go]? = some (.cells c 51 (0, 0)) := ⟨_, by rw [hw]; exact blk_set HC13.out _ _⟩; have HC14 := Aside0.mk hcl14; clear hcl14; have HR14 := mK ((by rw [hw]; exact Kd.R_move HR13.out (fun i hi => laws_markEntryS.set_far (HO.out i hi).2 _ _)) : (Kd.int .i64).R 3 w14 w0.heap.size oki (.slice Ai s7.length ci) p2); have HH14 := mK ((by rw [hw]; exact (Kd.H_seg HH13.out hk0 hltz (seg := [.bool (decide (p1.tmod 3 = 0))]) (j := 8) (by show 8 + 1 ≤ 9; omega) (by intro q hq; rw [List.mem_singleton.1 hq]; rfl)).1) : Kd.H k51 51 w14 w0.heap.size P0_ (.slice (some ⟨go, 0, none⟩) l0.length co) cur (kk : Int) oki [.string t1, .int .i64 (wrap64 (a + 1)), .int .i64 (wrap64 ((wrap64 (a + 1)) + 1)), .int .i64 (wrap64 ((wrap64 ((wrap64 (a + 1)) + 1)) + 1)), .int .i64 (wrap64 ((wrap64 ((wrap64 ((wrap64 (a + 1)) + 1)) + 1)) + 1)), .int .i64 (wrap64 ((wrap64 ((wrap64 ((wrap64 ((wrap64 (a + 1)) + 1)) + 1)) + 1)) + 1)), .int .i64 (wrap64 ((wrap64 ((wrap64 ((wrap64 ((wrap64 ((wrap64 (a + 1)) + 1)) + 1)) + 1)) + 1)) + 1)), .slice Ai s7.length ci, .bool (decide (p1.tmod 3 = 0))]); have HB14 := mK ((by rw [hw]; exact below_set HB13.out hgb) : Below w0.heap.size w0 w14); have HW14 := mK ((by rw [hw]; exact laws_markEntryS.kept_set HW13.out hPgo _ _) : Kept w w14 (fun k_ => P0_ k_)); clear hx13 hf13; have hln : s7.length = p2.length := (Kd.R_reads' HR14.out).1; have HS14 := mK (Kd.H_back HH14.out (x' := ⟨t1, wrap64 (a + 1), wrap64 ((wrap64 (a + 1)) + 1), ⟨wrap64 ((wrap64 ((wrap64 (a + 1)) + 1)) + 1), wrap64 ((wrap64 ((wrap64 ((wrap64 (a + 1)) + 1)) + 1)) + 1), wrap64 ((wrap64 ((wrap64 ((wrap64 ((wrap64 (a + 1)) + 1)) + 1)) + 1)) + 1), wrap64 ((wrap64 ((wrap64 ((wrap64 ((wrap64 ((wrap64 (a + 1)) + 1)) + 1)) + 1)) + 1)) + 1), p2, decide (p1.tmod 3 = 0)⟩⟩) (okp := oki) (k51_mkM w14 w0.heap.size oki ⟨t1, wrap64 (a + 1), wrap64 ((wrap64 (a + 1)) + 1), ⟨wrap64 ((wrap64 ((wrap64 (a + 1)) + 1)) + 1), wrap64 ((wrap64 ((wrap64 ((wrap64 (a + 1)) + 1)) + 1)) + 1), wrap64 ((wrap64 ((wrap64 ((wrap64 ((wrap64 (a + 1)) + 1)) + 1)) + 1)) + 1), wrap64 ((wrap64 ((wrap64 ((wrap64 ((wrap64 ((wrap64 (a + 1)) + 1)) + 1)) + 1)) + 1)) + 1), p2, decide (p1.tmod 3 = 0)⟩⟩ HR14.out) (fun _ hk => hk)); clear hln hw))
    go_roundg (l0.length - (kk + 1))
    case measure => omega
    case rel =>
     rw [Int.toNat_natCast] at HS14; refine ⟨kk + 1, wrap64 (p1 + 1), cur.set kk ⟨t1, wrap64 (a + 1), wrap64 ((wrap64 (a + 1)) + 1), ⟨wrap64 ((wrap64 ((wrap64 (a + 1)) + 1)) + 1), wrap64 ((wrap64 ((wrap64 ((wrap64 (a + 1)) + 1)) + 1)) + 1), wrap64 ((wrap64 ((wrap64 ((wrap64 ((wrap64 (a + 1)) + 1)) + 1)) + 1)) + 1), wrap64 ((wrap64 ((wrap64 ((wrap64 ((wrap64 ((wrap64 (a + 1)) + 1)) + 1)) + 1)) + 1)) + 1), p2, decide (p1.tmod 3 = 0)⟩⟩, q2, by omega, by omega, by first | rfl | go_num, by go_num, H', ⟨?_⟩, ⟨?_⟩, ⟨by rw [List.length_set]; exact HL.out⟩, ⟨by (with_reducible repeat (first | apply Kd.S_alloc | apply Kd.S_drewN | apply Kd.S_drew)); exact HS14.out⟩, ⟨by repeat (first | exact HW14.out | apply Kept.alloc | apply Kept.drewN | apply Kept.drew)⟩, ⟨by repeat (first | exact HB14.out | apply below_alloc | apply pw_below_drewN | apply below_drew1)⟩⟩; · rw [HR2.out, ← HE.out, List.take_succ_eq_append_getElem (by rw [List.length_set]; exact hlc), List.getElem_set_self, List.append_assoc, List.singleton_append, List.take_set_of_le (Nat.le_refl _)]
     ·have h1 := HD.out; rw [List.drop_eq_getElem_cons hlt, List.drop_eq_getElem_cons hlc] at h1; rw [List.drop_set_of_lt (Nat.lt_succ_self _)]; exact (List.cons.inj h1).2
   ·have hltz : ¬ (kk : Int) < (l0.length : Int) := by omega
    have : kk = l0.length := by omega
    subst this; have H := HA.out; rw [List.drop_eq_nil_of_le (Nat.le_refl _)] at H; simp only [laws_markEntryS.l, Option.some.injEq, Prod.mk.injEq] at H; obtain ⟨ha, hr⟩ := H; subst ha
    have hr2 : r2 = cur := by rw [HR2.out, ← hr, List.append_nil, ← HL.out, List.take_length]
    subst hr2; clear HA hr HR2
    go_wp2
    go_ret
    exact ⟨by first | rfl | (simp; done), Kd.S_mono (by (with_reducible repeat (first | apply Kd.S_alloc | apply Kd.S_drewN | apply Kd.S_drew)); exact HS.out) (fun k_ hk => .inl hk), by repeat (first | exact HB.out | apply below_alloc | apply pw_below_drewN | apply below_drew1), by repeat (first | exact HW.out | apply Kept.alloc | apply Kept.drewN | apply Kept.drew)⟩
 ·rw [if_neg hlen] at h
  cases h

end Go.Proofs.Ytllmlnagihlokaa.PFnExactBuildTable
