-- Written for this claim by a program of this session: a scratch copy of the kit's print with patches of this session.
import Derived.Test.YtodblpadklheaaaDoorPFnExactReadKeyx0
import Derived.Test.YtodblpadklheaaaDoorPFnExactReadKeyx1
import Derived.Test.YtodblpadklheaaaDoorPFnExactReadKeyx2
import Derived.Test.YtodblpadklheaaaDoorPFnExactReadKeyx4
import Derived.Test.YtodblpadklheaaaDoorPFnExactReadKeyx5
import Derived.Test.YtodblpadklheaaaDoorPFnExactReadKeyx8
namespace Go.Proofs.YtodblpadklheaaaDoor.PFnExactReadKey
open Go.RowKit Go.Proofs.YtodblpadklheaaaDoorW.PrintWords Go.Proofs.YtodblpadklheaaaDoorW.PrintLast Go.Proofs.YtodblpadklheaaaDoorW.PrintMore
attribute [local go_sem] max2_int min2_int max_two min_two max_three min_three max_four min_four hw_string_geq hw_string_gtr hw_string_leq   -- for this text's walks alone
set_option linter.unusedVariables false
set_option linter.unusedSimpArgs false

/-! ### laws_heldTagS: function 58 -/
def laws_heldTagS.l0 : Nat → List (S87) → Int → Int → Option (Int)
  | 0, _, _, _ => none
  | k + 1, x0, x1, x5 => if x5 < (x0.length : Int) then (if 0 ≤ x5 then ((laws_markText.f k x1).bind fun t213 => (if ((rd_T87 x0 x5).f0).toList = t213.toList then ((laws_markText.f k (wrap64 (x1 + 1))).bind fun t215 => (if ((rd_T87 x0 x5).f1).toList = t215.toList then (laws_heldTagS.l0 k x0 (wrap64 ((wrap64 (x1 + 1)) + 1)) (wrap64 (x5 + 1))) else (some (-1)))) else (some (-1)))) else (none)) else (some x1)
def laws_heldTagS.f (k : Nat) (l0 : List (S87)) (a1 : Int) : Option (Int) := laws_heldTagS.l0 k l0 a1 0
theorem laws_heldTagS.mono_l : ∀ k, (∀ y0 y1 y2, LeO (laws_heldTagS.l0 k y0 y1 y2) (laws_heldTagS.l0 (k + 1) y0 y1 y2))
  | 0 => fun _ _ _ r h => by simp [laws_heldTagS.l0] at h
  | k + 1 => by
    have ih0 := laws_heldTagS.mono_l k
    · intro y0 y1 y2
      unfold laws_heldTagS.l0
      repeat' first
      | (with_reducible exact ih0 _ _ _)
      | (with_reducible exact laws_markText.mono _ _)
      | (with_reducible exact LeO.refl _)
      | (with_reducible exact LeO.none _)
      | (with_reducible refine LeO.ite ?_ ?_)
      | (with_reducible refine LeO.bind ?_ (fun _ => ?_))
      | exact ih0 _ _ _
      | exact laws_markText.mono _ _
      | exact LeO.none _
      | refine LeO.ite ?_ ?_
      | refine LeO.bind ?_ (fun _ => ?_)
theorem laws_heldTagS.mono : ∀ a0 a1 k, LeO (laws_heldTagS.f k a0 a1) (laws_heldTagS.f (k + 1) a0 a1) := by
  intro a0 a1 k
  have ih0 := laws_heldTagS.mono_l k
  unfold laws_heldTagS.f
  repeat' first
      | (with_reducible exact ih0 _ _ _)
      | (with_reducible exact laws_markText.mono _ _)
      | (with_reducible exact LeO.refl _)
      | (with_reducible exact LeO.none _)
      | (with_reducible refine LeO.ite ?_ ?_)
      | (with_reducible refine LeO.bind ?_ (fun _ => ?_))
      | exact ih0 _ _ _
      | exact laws_markText.mono _ _
      | exact LeO.none _
      | refine LeO.ite ?_ ?_
      | refine LeO.bind ?_ (fun _ => ?_)
def laws_heldTagS.T4 : Bool × List (List Nat × List Nat) := (true, [([], []), ([], []), ([0, 1], [0, 1]), ([2], [2]), ([3], [3]), ([], []), ([5], [5]), ([4, 6], [4, 6])])
def laws_heldTagS.B4 : List Nat := [0, 0, 3, 7, 15, 0, 32, 127]
theorem laws_heldTagS.tab4 : rtab .any (opsOf Tryd.f58 4) = laws_heldTagS.T4 := by kernel_rfl
theorem laws_heldTagS.bits4 : waitsOk laws_heldTagS.T4.2 laws_heldTagS.B4 = true := by kernel_rfl
def laws_heldTagS.T7 : Bool × List (List Nat × List Nat) := (true, [([], []), ([], []), ([0, 1], [0, 1]), ([2], [2]), ([3], [3]), ([], []), ([5], [5]), ([4, 6], [4, 6])])
def laws_heldTagS.B7 : List Nat := [0, 0, 3, 7, 15, 0, 32, 127]
theorem laws_heldTagS.tab7 : rtab .any (opsOf Tryd.f58 7) = laws_heldTagS.T7 := by kernel_rfl
theorem laws_heldTagS.bits7 : waitsOk laws_heldTagS.T7.2 laws_heldTagS.B7 = true := by kernel_rfl
set_option maxHeartbeats 8000000 in
set_option maxRecDepth 100000 in
theorem laws_heldTagS.calls (k : Nat) (A0 : Option Addr) (c0 : Nat) (l0 : List (S87)) (a1 : Int) (r : Int) (w : World) (hr0 : Kd.C k87 w A0 l0.length l0) (hc0 : l0.length ≤ c0) (h : laws_heldTagS.f k l0 a1 = some r) :
    Calls Tryd.prog 58 #[.slice A0 l0.length c0, .int .i64 a1] w fun e w' => e = .returned (.int .i64 r) ∧ Below w.heap.size w w' := by
  have HR0 := Aside0.mk hr0
  have HC0 := Aside0.mk hc0
  clear hr0 hc0
  have HB := Aside0.mk (Below.refl w.heap.size w)
  have H : (laws_heldTagS.l0 k l0 a1 0) = some r := h
  clear h
  have H' := Aside0.mk H
  clear H
  go_enter Tryd.func58, Tryd.ntmps58
  go_wp2
  go_loopg [1, 5] k (fun kq v1 v5 w' => ∃ (x1_1 : Int) (x5_1 : Int), v1 = .int .i64 x1_1 ∧ v5 = .int .i64 x5_1 ∧ Aside0 (laws_heldTagS.l0 kq l0 x1_1 x5_1 = some r) ∧ Aside0 (kq ≤ k) ∧ Aside0 (Below w.heap.size w w'))
  case atStart => exact ⟨(a1), (0), (by first | rfl | (simp; done) | (simp [*]; done)), (by first | rfl | (simp; done) | (simp [*]; done)), H', ⟨Nat.le_refl _⟩, ⟨by repeat (first | (with_reducible first | exact HB.out | apply below_alloc | apply pw_below_drewN | apply below_drew1) | exact HB.out)⟩⟩
  case round =>
    clear H'
    try clear p2
    obtain ⟨x1_1, x5_1, rfl, rfl, HA, HK1, HB⟩ := hrel
    cases gk with
    | zero => exact absurd HA.out (by simp [laws_heldTagS.l0])
    | succ k1 =>
      have H := HA.out
      clear HA
      simp only [laws_heldTagS.l0] at H
      by_cases c3 : x5_1 < (l0.length : Int)
      · rw [if_pos c3] at H
        have c3b0 : decide (x5_1 < (l0.length : Int)) = true := decide_eq_true c3
        clear c3
        by_cases c4 : 0 ≤ x5_1
        · rw [if_pos c4] at H
          have c4b0 : decide (0 ≤ x5_1) = true := decide_eq_true c4
          clear c4
          replace H := Option.bind_eq_some_iff.mp H
          obtain ⟨t213, A50, H⟩ := H
          replace H : (if ((rd_T87 l0 x5_1).f0).toList = t213.toList then ((laws_markText.f k1 (wrap64 (x1_1 + 1))).bind fun t215 => (if ((rd_T87 l0 x5_1).f1).toList = t215.toList then (laws_heldTagS.l0 k1 l0 (wrap64 ((wrap64 (x1_1 + 1)) + 1)) (wrap64 (x5_1 + 1))) else (some (-1)))) else (some (-1))) = some r := H
          have A5 := Aside0.mk A50
          clear A50
          by_cases c6 : ((rd_T87 l0 x5_1).f0).toList = t213.toList
          · rw [if_pos c6] at H
            have c6b0 : (((rd_T87 l0 x5_1).f0).toList == t213.toList) = true := beq_iff_eq.mpr c6
            have c6b1 : (((rd_T87 l0 x5_1).f0).toList != t213.toList) = false := bne_eq_false_iff_eq.mpr c6
            clear c6
            replace H := Option.bind_eq_some_iff.mp H
            obtain ⟨t215, A70, H⟩ := H
            replace H : (if ((rd_T87 l0 x5_1).f1).toList = t215.toList then (laws_heldTagS.l0 k1 l0 (wrap64 ((wrap64 (x1_1 + 1)) + 1)) (wrap64 (x5_1 + 1))) else (some (-1))) = some r := H
            have A7 := Aside0.mk A70
            clear A70
            by_cases c8 : ((rd_T87 l0 x5_1).f1).toList = t215.toList
            · rw [if_pos c8] at H
              have c8b0 : (((rd_T87 l0 x5_1).f1).toList == t215.toList) = true := beq_iff_eq.mpr c8
              have c8b1 : (((rd_T87 l0 x5_1).f1).toList != t215.toList) = false := bne_eq_false_iff_eq.mpr c8
              clear c8
              have H' := Aside0.mk H
              clear H
              try go_wp2
              have n0_ := Aside0.mk (below_drew1 HB.out)
              clear HB
              have HB := n0_
              clear n0_
              have p212 : 0 ≤ (x5_1 : Int) := of_decide_eq_true (by first | (with_reducible assumption) | assumption)
              have q212 : x5_1 < (l0.length : Int) := of_decide_eq_true (by first | (with_reducible assumption) | assumption)
              obtain ⟨ad212, e212, hx212_0, hx212_1⟩ := at_T87 HR0.out x5_1 p212 q212
              have hw212_1 := hx212_1
              have hw212_0 := hx212_0
              cases e212
              try (replace hx212_0 := (HB.out.cell (World.block_lt_of_cell? w _ hx212_0)).trans hx212_0)
              try (replace hx212_1 := (HB.out.cell (World.block_lt_of_cell? w _ hx212_1)).trans hx212_1)
              replace p212 := eq_true p212
              replace q212 := eq_true q212
              refine start_ (n := 8) (S := fun w' => w'.cell? (ad212.add ((x5_1).toNat * 2)) = some (.string ((rd_T87 l0 x5_1).f0)) ∧ w'.cell? ⟨(ad212.add ((x5_1).toNat * 2)).block, (ad212.add ((x5_1).toNat * 2)).off + 1, none⟩ = some (.string ((rd_T87 l0 x5_1).f1))) (ds := []) #[false, false, false, false, false, false, false, false] (by kernel_rfl) rfl rfl ⟨((HB.out.cell (World.block_lt_of_cell? w _ hw212_0)).trans hw212_0), ((HB.out.cell (World.block_lt_of_cell? w _ hw212_1)).trans hw212_1)⟩ (fun hHeld => ?_); refine with_tabW laws_heldTagS.tab4 laws_heldTagS.bits4 (fun HT_ HW_ => ?_)
              generalize wr.drew = w9 at HB hx212_0 hx212_1 hHeld ⊢
              refine pure_ (i := 0) (N := some 12) (v := ?_) (a' := ?_) #[true, false, false, false, false, false, false, false] rfl rfl (any_of HT_.out (by kernel_rfl)) (fun _ _ _ h => h) (Or.inl ⟨by rfl, ?_⟩) ?_ ?_
              rotate_left
              · intro w'
                go_simp
                with_reducible rfl
              rotate_left
              · simp only [Act.put, List.setIfInBounds_toArray, List.set_cons_zero, List.set_cons_succ, i64_w, i32_w]
                rfl
              refine pure_ (i := 1) (N := some 13) (v := ?_) (a' := ?_) #[true, true, false, false, false, false, false, false] rfl rfl (any_of HT_.out (by kernel_rfl)) (fun _ _ _ h => h) (Or.inl ⟨by rfl, ?_⟩) ?_ ?_
              rotate_left
              · intro w'
                go_simp
                with_reducible rfl
              rotate_left
              · simp only [Act.put, List.setIfInBounds_toArray, List.set_cons_zero, List.set_cons_succ, i64_w, i32_w]
                rfl
              refine pure_ (i := 2) (N := some 14) (v := ?_) (a' := ?_) #[true, true, true, false, false, false, false, false] rfl rfl (any_of HT_.out (by kernel_rfl)) (fun _ _ _ h => h) (Or.inl ⟨by rfl, ?_⟩) ?_ ?_
              rotate_left
              · intro w'
                go_simp
                with_reducible rfl
              rotate_left
              · simp only [Act.put, List.setIfInBounds_toArray, List.set_cons_zero, List.set_cons_succ, i64_w, i32_w]
                rfl
              refine pure_ (i := 3) (N := some 15) (v := ?_) (a' := ?_) #[true, true, true, true, false, false, false, false] rfl rfl (any_of HT_.out (by kernel_rfl)) (fun _ _ _ h => h) (Or.inl ⟨by rfl, ?_⟩) ?_ ?_
              rotate_left
              · intro w'
                go_simp
                with_reducible rfl
              rotate_left
              · simp only [Act.put, List.setIfInBounds_toArray, List.set_cons_zero, List.set_cons_succ, i64_w, i32_w]
                rfl
              refine pure_ (i := 5) (N := some 17) (v := ?_) (a' := ?_) #[true, true, true, true, false, true, false, false] rfl rfl (any_of HT_.out (by kernel_rfl)) (fun _ _ _ h => h) (Or.inl ⟨by rfl, ?_⟩) ?_ ?_
              rotate_left
              · intro w'
                go_simp
                with_reducible rfl
              rotate_left
              · simp only [Act.put, List.setIfInBounds_toArray, List.set_cons_zero, List.set_cons_succ, i64_w, i32_w]
                rfl
              refine take_ (i := 4) (N := some 16) (v := ?_) (a' := ?_) #[true, true, true, true, true, true, false, false] rfl rfl (take_ofW HT_.out HW_.out (by kernel_rfl)) (fun _ _ _ h => h) (Or.inl ⟨by rfl, ?_⟩) hHeld ?_ ?_
              rotate_left
              · rintro w' ⟨s0, s1⟩
                go_simp
                with_reducible rfl
              rotate_left
              · simp only [Act.put, List.setIfInBounds_toArray, List.set_cons_zero, List.set_cons_succ, i64_w, i32_w]
                rfl
              refine one_ (i := 6) (N := some 18) #[true, true, true, true, true, true, true, false] rfl rfl (one_of HT_.out (by kernel_rfl)) (by decide) (fun K hK => ?_)
              refine goes_ Tryd.func78 (by kernel_rfl) rfl #[.int .i64 x1_1] (by rfl) rfl rfl (by (try simp only [List.map_toArray, List.map_cons, List.map_nil]); first | done | rfl | (simp only [List.length_drop, List.length_take]; rfl)) ?_
              with_reducible refine (laws_markText.calls k1 x1_1 t213 _ A5.out).mono ?_
              rintro e w10 ⟨rfl, hb⟩
              refine ⟨_, rfl, ?_⟩
              have n0_ := Aside0.mk (below_step (by repeat (first | (with_reducible first | exact HB.out | apply below_alloc | apply pw_below_drewN | apply below_drew1) | exact HB.out)) hb)
              clear HB
              have HB := n0_
              clear n0_
              (try clear hb)
              (try clear hb2)
              (try clear hk)
              (try clear hi)
              refine hK.out _ _ ⟨((HB.out.cell (World.block_lt_of_cell? w _ hw212_0)).trans hw212_0), ((HB.out.cell (World.block_lt_of_cell? w _ hw212_1)).trans hw212_1)⟩ (fun hHeld => ?_)
              clear hK K
              refine norm_ (a' := ?_) ?_ ?_
              rotate_left
              · show Act.put _ (some 18) _ = _
                simp only [Act.put, List.setIfInBounds_toArray, List.set_cons_zero, List.set_cons_succ, i64_w, i32_w]
                rfl
              refine pure_ (i := 7) (N := some 19) (v := ?_) (a' := ?_) #[true, true, true, true, true, true, true, true] rfl rfl (any_of HT_.out (by kernel_rfl)) (fun _ _ _ h => h) (Or.inl ⟨by rfl, ?_⟩) ?_ ?_
              rotate_left
              · intro w'
                go_simp
                with_reducible rfl
              rotate_left
              · simp only [Act.put, List.setIfInBounds_toArray, List.set_cons_zero, List.set_cons_succ, i64_w, i32_w]
                rfl
              refine done_ (done_of HT_.out (by kernel_rfl)) ?_
              try go_wp2
              have n0_ := Aside0.mk (below_drew1 HB.out)
              clear HB
              have HB := n0_
              clear n0_
              have p214 : 0 ≤ (x5_1 : Int) := of_decide_eq_true (by first | (with_reducible assumption) | assumption)
              have q214 : x5_1 < (l0.length : Int) := of_decide_eq_true (by first | (with_reducible assumption) | assumption)
              obtain ⟨ad214, e214, hx214_0, hx214_1⟩ := at_T87 HR0.out x5_1 p214 q214
              have hw214_1 := hx214_1
              have hw214_0 := hx214_0
              obtain rfl : ad212 = ad214 := (by injection e214)
              try (replace hx214_0 := (HB.out.cell (World.block_lt_of_cell? w _ hx214_0)).trans hx214_0)
              try (replace hx214_1 := (HB.out.cell (World.block_lt_of_cell? w _ hx214_1)).trans hx214_1)
              replace p214 := eq_true p214
              replace q214 := eq_true q214
              refine start_ (n := 8) (S := fun w' => w'.cell? (ad212.add ((x5_1).toNat * 2)) = some (.string ((rd_T87 l0 x5_1).f0)) ∧ w'.cell? ⟨(ad212.add ((x5_1).toNat * 2)).block, (ad212.add ((x5_1).toNat * 2)).off + 1, none⟩ = some (.string ((rd_T87 l0 x5_1).f1))) (ds := []) #[false, false, false, false, false, false, false, false] (by kernel_rfl) rfl rfl ⟨((HB.out.cell (World.block_lt_of_cell? w _ hw214_0)).trans hw214_0), ((HB.out.cell (World.block_lt_of_cell? w _ hw214_1)).trans hw214_1)⟩ (fun hHeld => ?_); refine with_tabW laws_heldTagS.tab7 laws_heldTagS.bits7 (fun HT_ HW_ => ?_)
              generalize w10.drew = w11 at HB hx214_0 hx214_1 hHeld ⊢
              refine pure_ (i := 0) (N := some 22) (v := ?_) (a' := ?_) #[true, false, false, false, false, false, false, false] rfl rfl (any_of HT_.out (by kernel_rfl)) (fun _ _ _ h => h) (Or.inl ⟨by rfl, ?_⟩) ?_ ?_
              rotate_left
              · intro w'
                go_simp
                with_reducible rfl
              rotate_left
              · simp only [Act.put, List.setIfInBounds_toArray, List.set_cons_zero, List.set_cons_succ, i64_w, i32_w]
                rfl
              refine pure_ (i := 1) (N := some 23) (v := ?_) (a' := ?_) #[true, true, false, false, false, false, false, false] rfl rfl (any_of HT_.out (by kernel_rfl)) (fun _ _ _ h => h) (Or.inl ⟨by rfl, ?_⟩) ?_ ?_
              rotate_left
              · intro w'
                go_simp
                with_reducible rfl
              rotate_left
              · simp only [Act.put, List.setIfInBounds_toArray, List.set_cons_zero, List.set_cons_succ, i64_w, i32_w]
                rfl
              refine pure_ (i := 2) (N := some 24) (v := ?_) (a' := ?_) #[true, true, true, false, false, false, false, false] rfl rfl (any_of HT_.out (by kernel_rfl)) (fun _ _ _ h => h) (Or.inl ⟨by rfl, ?_⟩) ?_ ?_
              rotate_left
              · intro w'
                go_simp
                with_reducible rfl
              rotate_left
              · simp only [Act.put, List.setIfInBounds_toArray, List.set_cons_zero, List.set_cons_succ, i64_w, i32_w]
                rfl
              refine pure_ (i := 3) (N := some 25) (v := ?_) (a' := ?_) #[true, true, true, true, false, false, false, false] rfl rfl (any_of HT_.out (by kernel_rfl)) (fun _ _ _ h => h) (Or.inl ⟨by rfl, ?_⟩) ?_ ?_
              rotate_left
              · intro w'
                go_simp
                with_reducible rfl
              rotate_left
              · simp only [Act.put, List.setIfInBounds_toArray, List.set_cons_zero, List.set_cons_succ, i64_w, i32_w]
                rfl
              refine pure_ (i := 5) (N := some 27) (v := ?_) (a' := ?_) #[true, true, true, true, false, true, false, false] rfl rfl (any_of HT_.out (by kernel_rfl)) (fun _ _ _ h => h) (Or.inl ⟨by rfl, ?_⟩) ?_ ?_
              rotate_left
              · intro w'
                go_simp
                with_reducible rfl
              rotate_left
              · simp only [Act.put, List.setIfInBounds_toArray, List.set_cons_zero, List.set_cons_succ, i64_w, i32_w]
                rfl
              refine take_ (i := 4) (N := some 26) (v := ?_) (a' := ?_) #[true, true, true, true, true, true, false, false] rfl rfl (take_ofW HT_.out HW_.out (by kernel_rfl)) (fun _ _ _ h => h) (Or.inl ⟨by rfl, ?_⟩) hHeld ?_ ?_
              rotate_left
              · rintro w' ⟨s0, s1⟩
                go_simp
                with_reducible rfl
              rotate_left
              · simp only [Act.put, List.setIfInBounds_toArray, List.set_cons_zero, List.set_cons_succ, i64_w, i32_w]
                rfl
              refine one_ (i := 6) (N := some 28) #[true, true, true, true, true, true, true, false] rfl rfl (one_of HT_.out (by kernel_rfl)) (by decide) (fun K hK => ?_)
              refine goes_ Tryd.func78 (by kernel_rfl) rfl #[.int .i64 (wrap64 (x1_1 + 1))] (by rfl) rfl rfl (by (try simp only [List.map_toArray, List.map_cons, List.map_nil]); first | done | rfl | (simp only [List.length_drop, List.length_take]; rfl)) ?_
              with_reducible refine (laws_markText.calls k1 (wrap64 (x1_1 + 1)) t215 _ A7.out).mono ?_
              rintro e w12 ⟨rfl, hb⟩
              refine ⟨_, rfl, ?_⟩
              have n0_ := Aside0.mk (below_step (by repeat (first | (with_reducible first | exact HB.out | apply below_alloc | apply pw_below_drewN | apply below_drew1) | exact HB.out)) hb)
              clear HB
              have HB := n0_
              clear n0_
              (try clear hb)
              (try clear hb2)
              (try clear hk)
              (try clear hi)
              refine hK.out _ _ ⟨((HB.out.cell (World.block_lt_of_cell? w _ hw214_0)).trans hw214_0), ((HB.out.cell (World.block_lt_of_cell? w _ hw214_1)).trans hw214_1)⟩ (fun hHeld => ?_)
              clear hK K
              refine norm_ (a' := ?_) ?_ ?_
              rotate_left
              · show Act.put _ (some 28) _ = _
                simp only [Act.put, List.setIfInBounds_toArray, List.set_cons_zero, List.set_cons_succ, i64_w, i32_w]
                rfl
              refine pure_ (i := 7) (N := some 29) (v := ?_) (a' := ?_) #[true, true, true, true, true, true, true, true] rfl rfl (any_of HT_.out (by kernel_rfl)) (fun _ _ _ h => h) (Or.inl ⟨by rfl, ?_⟩) ?_ ?_
              rotate_left
              · intro w'
                go_simp
                with_reducible rfl
              rotate_left
              · simp only [Act.put, List.setIfInBounds_toArray, List.set_cons_zero, List.set_cons_succ, i64_w, i32_w]
                rfl
              refine done_ (done_of HT_.out (by kernel_rfl)) ?_
              try go_wp2
              go_roundg k1
              case measure => have := HK1.out; omega
              case rel => exact ⟨(wrap64 ((wrap64 (x1_1 + 1)) + 1)), (wrap64 (x5_1 + 1)), (by first | rfl | (simp; done) | (simp [*]; done)), (by first | rfl | (simp; done) | (simp [*]; done)), H', ⟨by have := HK1.out; omega⟩, ⟨by repeat (first | (with_reducible first | exact HB.out | apply below_alloc | apply pw_below_drewN | apply below_drew1) | exact HB.out)⟩⟩
            · rw [if_neg c8] at H
              have c8b0 : (((rd_T87 l0 x5_1).f1).toList == t215.toList) = false := beq_eq_false_iff_ne.mpr c8
              have c8b1 : (((rd_T87 l0 x5_1).f1).toList != t215.toList) = true := bne_iff_ne.mpr c8
              obtain rfl := Option.some.inj H
              try go_wp2
              have n0_ := Aside0.mk (below_drew1 HB.out)
              clear HB
              have HB := n0_
              clear n0_
              have p212 : 0 ≤ (x5_1 : Int) := of_decide_eq_true (by first | (with_reducible assumption) | assumption)
              have q212 : x5_1 < (l0.length : Int) := of_decide_eq_true (by first | (with_reducible assumption) | assumption)
              obtain ⟨ad212, e212, hx212_0, hx212_1⟩ := at_T87 HR0.out x5_1 p212 q212
              have hw212_1 := hx212_1
              have hw212_0 := hx212_0
              cases e212
              try (replace hx212_0 := (HB.out.cell (World.block_lt_of_cell? w _ hx212_0)).trans hx212_0)
              try (replace hx212_1 := (HB.out.cell (World.block_lt_of_cell? w _ hx212_1)).trans hx212_1)
              replace p212 := eq_true p212
              replace q212 := eq_true q212
              refine start_ (n := 8) (S := fun w' => w'.cell? (ad212.add ((x5_1).toNat * 2)) = some (.string ((rd_T87 l0 x5_1).f0)) ∧ w'.cell? ⟨(ad212.add ((x5_1).toNat * 2)).block, (ad212.add ((x5_1).toNat * 2)).off + 1, none⟩ = some (.string ((rd_T87 l0 x5_1).f1))) (ds := []) #[false, false, false, false, false, false, false, false] (by kernel_rfl) rfl rfl ⟨((HB.out.cell (World.block_lt_of_cell? w _ hw212_0)).trans hw212_0), ((HB.out.cell (World.block_lt_of_cell? w _ hw212_1)).trans hw212_1)⟩ (fun hHeld => ?_); refine with_tabW laws_heldTagS.tab4 laws_heldTagS.bits4 (fun HT_ HW_ => ?_)
              generalize wr.drew = w13 at HB hx212_0 hx212_1 hHeld ⊢
              refine pure_ (i := 0) (N := some 12) (v := ?_) (a' := ?_) #[true, false, false, false, false, false, false, false] rfl rfl (any_of HT_.out (by kernel_rfl)) (fun _ _ _ h => h) (Or.inl ⟨by rfl, ?_⟩) ?_ ?_
              rotate_left
              · intro w'
                go_simp
                with_reducible rfl
              rotate_left
              · simp only [Act.put, List.setIfInBounds_toArray, List.set_cons_zero, List.set_cons_succ, i64_w, i32_w]
                rfl
              refine pure_ (i := 1) (N := some 13) (v := ?_) (a' := ?_) #[true, true, false, false, false, false, false, false] rfl rfl (any_of HT_.out (by kernel_rfl)) (fun _ _ _ h => h) (Or.inl ⟨by rfl, ?_⟩) ?_ ?_
              rotate_left
              · intro w'
                go_simp
                with_reducible rfl
              rotate_left
              · simp only [Act.put, List.setIfInBounds_toArray, List.set_cons_zero, List.set_cons_succ, i64_w, i32_w]
                rfl
              refine pure_ (i := 2) (N := some 14) (v := ?_) (a' := ?_) #[true, true, true, false, false, false, false, false] rfl rfl (any_of HT_.out (by kernel_rfl)) (fun _ _ _ h => h) (Or.inl ⟨by rfl, ?_⟩) ?_ ?_
              rotate_left
              · intro w'
                go_simp
                with_reducible rfl
              rotate_left
              · simp only [Act.put, List.setIfInBounds_toArray, List.set_cons_zero, List.set_cons_succ, i64_w, i32_w]
                rfl
              refine pure_ (i := 3) (N := some 15) (v := ?_) (a' := ?_) #[true, true, true, true, false, false, false, false] rfl rfl (any_of HT_.out (by kernel_rfl)) (fun _ _ _ h => h) (Or.inl ⟨by rfl, ?_⟩) ?_ ?_
              rotate_left
              · intro w'
                go_simp
                with_reducible rfl
              rotate_left
              · simp only [Act.put, List.setIfInBounds_toArray, List.set_cons_zero, List.set_cons_succ, i64_w, i32_w]
                rfl
              refine pure_ (i := 5) (N := some 17) (v := ?_) (a' := ?_) #[true, true, true, true, false, true, false, false] rfl rfl (any_of HT_.out (by kernel_rfl)) (fun _ _ _ h => h) (Or.inl ⟨by rfl, ?_⟩) ?_ ?_
              rotate_left
              · intro w'
                go_simp
                with_reducible rfl
              rotate_left
              · simp only [Act.put, List.setIfInBounds_toArray, List.set_cons_zero, List.set_cons_succ, i64_w, i32_w]
                rfl
              refine take_ (i := 4) (N := some 16) (v := ?_) (a' := ?_) #[true, true, true, true, true, true, false, false] rfl rfl (take_ofW HT_.out HW_.out (by kernel_rfl)) (fun _ _ _ h => h) (Or.inl ⟨by rfl, ?_⟩) hHeld ?_ ?_
              rotate_left
              · rintro w' ⟨s0, s1⟩
                go_simp
                with_reducible rfl
              rotate_left
              · simp only [Act.put, List.setIfInBounds_toArray, List.set_cons_zero, List.set_cons_succ, i64_w, i32_w]
                rfl
              refine one_ (i := 6) (N := some 18) #[true, true, true, true, true, true, true, false] rfl rfl (one_of HT_.out (by kernel_rfl)) (by decide) (fun K hK => ?_)
              refine goes_ Tryd.func78 (by kernel_rfl) rfl #[.int .i64 x1_1] (by rfl) rfl rfl (by (try simp only [List.map_toArray, List.map_cons, List.map_nil]); first | done | rfl | (simp only [List.length_drop, List.length_take]; rfl)) ?_
              with_reducible refine (laws_markText.calls k1 x1_1 t213 _ A5.out).mono ?_
              rintro e w14 ⟨rfl, hb⟩
              refine ⟨_, rfl, ?_⟩
              have n0_ := Aside0.mk (below_step (by repeat (first | (with_reducible first | exact HB.out | apply below_alloc | apply pw_below_drewN | apply below_drew1) | exact HB.out)) hb)
              clear HB
              have HB := n0_
              clear n0_
              (try clear hb)
              (try clear hb2)
              (try clear hk)
              (try clear hi)
              refine hK.out _ _ ⟨((HB.out.cell (World.block_lt_of_cell? w _ hw212_0)).trans hw212_0), ((HB.out.cell (World.block_lt_of_cell? w _ hw212_1)).trans hw212_1)⟩ (fun hHeld => ?_)
              clear hK K
              refine norm_ (a' := ?_) ?_ ?_
              rotate_left
              · show Act.put _ (some 18) _ = _
                simp only [Act.put, List.setIfInBounds_toArray, List.set_cons_zero, List.set_cons_succ, i64_w, i32_w]
                rfl
              refine pure_ (i := 7) (N := some 19) (v := ?_) (a' := ?_) #[true, true, true, true, true, true, true, true] rfl rfl (any_of HT_.out (by kernel_rfl)) (fun _ _ _ h => h) (Or.inl ⟨by rfl, ?_⟩) ?_ ?_
              rotate_left
              · intro w'
                go_simp
                with_reducible rfl
              rotate_left
              · simp only [Act.put, List.setIfInBounds_toArray, List.set_cons_zero, List.set_cons_succ, i64_w, i32_w]
                rfl
              refine done_ (done_of HT_.out (by kernel_rfl)) ?_
              try go_wp2
              have n0_ := Aside0.mk (below_drew1 HB.out)
              clear HB
              have HB := n0_
              clear n0_
              have p214 : 0 ≤ (x5_1 : Int) := of_decide_eq_true (by first | (with_reducible assumption) | assumption)
              have q214 : x5_1 < (l0.length : Int) := of_decide_eq_true (by first | (with_reducible assumption) | assumption)
              obtain ⟨ad214, e214, hx214_0, hx214_1⟩ := at_T87 HR0.out x5_1 p214 q214
              have hw214_1 := hx214_1
              have hw214_0 := hx214_0
              obtain rfl : ad212 = ad214 := (by injection e214)
              try (replace hx214_0 := (HB.out.cell (World.block_lt_of_cell? w _ hx214_0)).trans hx214_0)
              try (replace hx214_1 := (HB.out.cell (World.block_lt_of_cell? w _ hx214_1)).trans hx214_1)
              replace p214 := eq_true p214
              replace q214 := eq_true q214
              refine start_ (n := 8) (S := fun w' => w'.cell? (ad212.add ((x5_1).toNat * 2)) = some (.string ((rd_T87 l0 x5_1).f0)) ∧ w'.cell? ⟨(ad212.add ((x5_1).toNat * 2)).block, (ad212.add ((x5_1).toNat * 2)).off + 1, none⟩ = some (.string ((rd_T87 l0 x5_1).f1))) (ds := []) #[false, false, false, false, false, false, false, false] (by kernel_rfl) rfl rfl ⟨((HB.out.cell (World.block_lt_of_cell? w _ hw214_0)).trans hw214_0), ((HB.out.cell (World.block_lt_of_cell? w _ hw214_1)).trans hw214_1)⟩ (fun hHeld => ?_); refine with_tabW laws_heldTagS.tab7 laws_heldTagS.bits7 (fun HT_ HW_ => ?_)
              generalize w14.drew = w15 at HB hx214_0 hx214_1 hHeld ⊢
              refine pure_ (i := 0) (N := some 22) (v := ?_) (a' := ?_) #[true, false, false, false, false, false, false, false] rfl rfl (any_of HT_.out (by kernel_rfl)) (fun _ _ _ h => h) (Or.inl ⟨by rfl, ?_⟩) ?_ ?_
              rotate_left
              · intro w'
                go_simp
                with_reducible rfl
              rotate_left
              · simp only [Act.put, List.setIfInBounds_toArray, List.set_cons_zero, List.set_cons_succ, i64_w, i32_w]
                rfl
              refine pure_ (i := 1) (N := some 23) (v := ?_) (a' := ?_) #[true, true, false, false, false, false, false, false] rfl rfl (any_of HT_.out (by kernel_rfl)) (fun _ _ _ h => h) (Or.inl ⟨by rfl, ?_⟩) ?_ ?_
              rotate_left
              · intro w'
                go_simp
                with_reducible rfl
              rotate_left
              · simp only [Act.put, List.setIfInBounds_toArray, List.set_cons_zero, List.set_cons_succ, i64_w, i32_w]
                rfl
              refine pure_ (i := 2) (N := some 24) (v := ?_) (a' := ?_) #[true, true, true, false, false, false, false, false] rfl rfl (any_of HT_.out (by kernel_rfl)) (fun _ _ _ h => h) (Or.inl ⟨by rfl, ?_⟩) ?_ ?_
              rotate_left
              · intro w'
                go_simp
                with_reducible rfl
              rotate_left
              · simp only [Act.put, List.setIfInBounds_toArray, List.set_cons_zero, List.set_cons_succ, i64_w, i32_w]
                rfl
              refine pure_ (i := 3) (N := some 25) (v := ?_) (a' := ?_) #[true, true, true, true, false, false, false, false] rfl rfl (any_of HT_.out (by kernel_rfl)) (fun _ _ _ h => h) (Or.inl ⟨by rfl, ?_⟩) ?_ ?_
              rotate_left
              · intro w'
                go_simp
                with_reducible rfl
              rotate_left
              · simp only [Act.put, List.setIfInBounds_toArray, List.set_cons_zero, List.set_cons_succ, i64_w, i32_w]
                rfl
              refine pure_ (i := 5) (N := some 27) (v := ?_) (a' := ?_) #[true, true, true, true, false, true, false, false] rfl rfl (any_of HT_.out (by kernel_rfl)) (fun _ _ _ h => h) (Or.inl ⟨by rfl, ?_⟩) ?_ ?_
              rotate_left
              · intro w'
                go_simp
                with_reducible rfl
              rotate_left
              · simp only [Act.put, List.setIfInBounds_toArray, List.set_cons_zero, List.set_cons_succ, i64_w, i32_w]
                rfl
              refine take_ (i := 4) (N := some 26) (v := ?_) (a' := ?_) #[true, true, true, true, true, true, false, false] rfl rfl (take_ofW HT_.out HW_.out (by kernel_rfl)) (fun _ _ _ h => h) (Or.inl ⟨by rfl, ?_⟩) hHeld ?_ ?_
              rotate_left
              · rintro w' ⟨s0, s1⟩
                go_simp
                with_reducible rfl
              rotate_left
              · simp only [Act.put, List.setIfInBounds_toArray, List.set_cons_zero, List.set_cons_succ, i64_w, i32_w]
                rfl
              refine one_ (i := 6) (N := some 28) #[true, true, true, true, true, true, true, false] rfl rfl (one_of HT_.out (by kernel_rfl)) (by decide) (fun K hK => ?_)
              refine goes_ Tryd.func78 (by kernel_rfl) rfl #[.int .i64 (wrap64 (x1_1 + 1))] (by rfl) rfl rfl (by (try simp only [List.map_toArray, List.map_cons, List.map_nil]); first | done | rfl | (simp only [List.length_drop, List.length_take]; rfl)) ?_
              with_reducible refine (laws_markText.calls k1 (wrap64 (x1_1 + 1)) t215 _ A7.out).mono ?_
              rintro e w16 ⟨rfl, hb⟩
              refine ⟨_, rfl, ?_⟩
              have n0_ := Aside0.mk (below_step (by repeat (first | (with_reducible first | exact HB.out | apply below_alloc | apply pw_below_drewN | apply below_drew1) | exact HB.out)) hb)
              clear HB
              have HB := n0_
              clear n0_
              (try clear hb)
              (try clear hb2)
              (try clear hk)
              (try clear hi)
              refine hK.out _ _ ⟨((HB.out.cell (World.block_lt_of_cell? w _ hw214_0)).trans hw214_0), ((HB.out.cell (World.block_lt_of_cell? w _ hw214_1)).trans hw214_1)⟩ (fun hHeld => ?_)
              clear hK K
              refine norm_ (a' := ?_) ?_ ?_
              rotate_left
              · show Act.put _ (some 28) _ = _
                simp only [Act.put, List.setIfInBounds_toArray, List.set_cons_zero, List.set_cons_succ, i64_w, i32_w]
                rfl
              refine pure_ (i := 7) (N := some 29) (v := ?_) (a' := ?_) #[true, true, true, true, true, true, true, true] rfl rfl (any_of HT_.out (by kernel_rfl)) (fun _ _ _ h => h) (Or.inl ⟨by rfl, ?_⟩) ?_ ?_
              rotate_left
              · intro w'
                go_simp
                with_reducible rfl
              rotate_left
              · simp only [Act.put, List.setIfInBounds_toArray, List.set_cons_zero, List.set_cons_succ, i64_w, i32_w]
                rfl
              refine done_ (done_of HT_.out (by kernel_rfl)) ?_
              try go_wp2
              go_ret
              exact ⟨by first | rfl | (simp [errW_none, errW_some] <;> rfl) | (simp [*, errW_none, errW_some] <;> rfl), by repeat (first | (with_reducible first | exact HB.out | apply below_alloc | apply pw_below_drewN | apply below_drew1) | exact HB.out)⟩
          · rw [if_neg c6] at H
            have c6b0 : (((rd_T87 l0 x5_1).f0).toList == t213.toList) = false := beq_eq_false_iff_ne.mpr c6
            have c6b1 : (((rd_T87 l0 x5_1).f0).toList != t213.toList) = true := bne_iff_ne.mpr c6
            obtain rfl := Option.some.inj H
            try go_wp2
            have n0_ := Aside0.mk (below_drew1 HB.out)
            clear HB
            have HB := n0_
            clear n0_
            have p212 : 0 ≤ (x5_1 : Int) := of_decide_eq_true (by first | (with_reducible assumption) | assumption)
            have q212 : x5_1 < (l0.length : Int) := of_decide_eq_true (by first | (with_reducible assumption) | assumption)
            obtain ⟨ad212, e212, hx212_0, hx212_1⟩ := at_T87 HR0.out x5_1 p212 q212
            have hw212_1 := hx212_1
            have hw212_0 := hx212_0
            cases e212
            try (replace hx212_0 := (HB.out.cell (World.block_lt_of_cell? w _ hx212_0)).trans hx212_0)
            try (replace hx212_1 := (HB.out.cell (World.block_lt_of_cell? w _ hx212_1)).trans hx212_1)
            replace p212 := eq_true p212
            replace q212 := eq_true q212
            refine start_ (n := 8) (S := fun w' => w'.cell? (ad212.add ((x5_1).toNat * 2)) = some (.string ((rd_T87 l0 x5_1).f0)) ∧ w'.cell? ⟨(ad212.add ((x5_1).toNat * 2)).block, (ad212.add ((x5_1).toNat * 2)).off + 1, none⟩ = some (.string ((rd_T87 l0 x5_1).f1))) (ds := []) #[false, false, false, false, false, false, false, false] (by kernel_rfl) rfl rfl ⟨((HB.out.cell (World.block_lt_of_cell? w _ hw212_0)).trans hw212_0), ((HB.out.cell (World.block_lt_of_cell? w _ hw212_1)).trans hw212_1)⟩ (fun hHeld => ?_); refine with_tabW laws_heldTagS.tab4 laws_heldTagS.bits4 (fun HT_ HW_ => ?_)
            generalize wr.drew = w17 at HB hx212_0 hx212_1 hHeld ⊢
            refine pure_ (i := 0) (N := some 12) (v := ?_) (a' := ?_) #[true, false, false, false, false, false, false, false] rfl rfl (any_of HT_.out (by kernel_rfl)) (fun _ _ _ h => h) (Or.inl ⟨by rfl, ?_⟩) ?_ ?_
            rotate_left
            · intro w'
              go_simp
              with_reducible rfl
            rotate_left
            · simp only [Act.put, List.setIfInBounds_toArray, List.set_cons_zero, List.set_cons_succ, i64_w, i32_w]
              rfl
            refine pure_ (i := 1) (N := some 13) (v := ?_) (a' := ?_) #[true, true, false, false, false, false, false, false] rfl rfl (any_of HT_.out (by kernel_rfl)) (fun _ _ _ h => h) (Or.inl ⟨by rfl, ?_⟩) ?_ ?_
            rotate_left
            · intro w'
              go_simp
              with_reducible rfl
            rotate_left
            · simp only [Act.put, List.setIfInBounds_toArray, List.set_cons_zero, List.set_cons_succ, i64_w, i32_w]
              rfl
            refine pure_ (i := 2) (N := some 14) (v := ?_) (a' := ?_) #[true, true, true, false, false, false, false, false] rfl rfl (any_of HT_.out (by kernel_rfl)) (fun _ _ _ h => h) (Or.inl ⟨by rfl, ?_⟩) ?_ ?_
            rotate_left
            · intro w'
              go_simp
              with_reducible rfl
            rotate_left
            · simp only [Act.put, List.setIfInBounds_toArray, List.set_cons_zero, List.set_cons_succ, i64_w, i32_w]
              rfl
            refine pure_ (i := 3) (N := some 15) (v := ?_) (a' := ?_) #[true, true, true, true, false, false, false, false] rfl rfl (any_of HT_.out (by kernel_rfl)) (fun _ _ _ h => h) (Or.inl ⟨by rfl, ?_⟩) ?_ ?_
            rotate_left
            · intro w'
              go_simp
              with_reducible rfl
            rotate_left
            · simp only [Act.put, List.setIfInBounds_toArray, List.set_cons_zero, List.set_cons_succ, i64_w, i32_w]
              rfl
            refine pure_ (i := 5) (N := some 17) (v := ?_) (a' := ?_) #[true, true, true, true, false, true, false, false] rfl rfl (any_of HT_.out (by kernel_rfl)) (fun _ _ _ h => h) (Or.inl ⟨by rfl, ?_⟩) ?_ ?_
            rotate_left
            · intro w'
              go_simp
              with_reducible rfl
            rotate_left
            · simp only [Act.put, List.setIfInBounds_toArray, List.set_cons_zero, List.set_cons_succ, i64_w, i32_w]
              rfl
            refine take_ (i := 4) (N := some 16) (v := ?_) (a' := ?_) #[true, true, true, true, true, true, false, false] rfl rfl (take_ofW HT_.out HW_.out (by kernel_rfl)) (fun _ _ _ h => h) (Or.inl ⟨by rfl, ?_⟩) hHeld ?_ ?_
            rotate_left
            · rintro w' ⟨s0, s1⟩
              go_simp
              with_reducible rfl
            rotate_left
            · simp only [Act.put, List.setIfInBounds_toArray, List.set_cons_zero, List.set_cons_succ, i64_w, i32_w]
              rfl
            refine one_ (i := 6) (N := some 18) #[true, true, true, true, true, true, true, false] rfl rfl (one_of HT_.out (by kernel_rfl)) (by decide) (fun K hK => ?_)
            refine goes_ Tryd.func78 (by kernel_rfl) rfl #[.int .i64 x1_1] (by rfl) rfl rfl (by (try simp only [List.map_toArray, List.map_cons, List.map_nil]); first | done | rfl | (simp only [List.length_drop, List.length_take]; rfl)) ?_
            with_reducible refine (laws_markText.calls k1 x1_1 t213 _ A5.out).mono ?_
            rintro e w18 ⟨rfl, hb⟩
            refine ⟨_, rfl, ?_⟩
            have n0_ := Aside0.mk (below_step (by repeat (first | (with_reducible first | exact HB.out | apply below_alloc | apply pw_below_drewN | apply below_drew1) | exact HB.out)) hb)
            clear HB
            have HB := n0_
            clear n0_
            (try clear hb)
            (try clear hb2)
            (try clear hk)
            (try clear hi)
            refine hK.out _ _ ⟨((HB.out.cell (World.block_lt_of_cell? w _ hw212_0)).trans hw212_0), ((HB.out.cell (World.block_lt_of_cell? w _ hw212_1)).trans hw212_1)⟩ (fun hHeld => ?_)
            clear hK K
            refine norm_ (a' := ?_) ?_ ?_
            rotate_left
            · show Act.put _ (some 18) _ = _
              simp only [Act.put, List.setIfInBounds_toArray, List.set_cons_zero, List.set_cons_succ, i64_w, i32_w]
              rfl
            refine pure_ (i := 7) (N := some 19) (v := ?_) (a' := ?_) #[true, true, true, true, true, true, true, true] rfl rfl (any_of HT_.out (by kernel_rfl)) (fun _ _ _ h => h) (Or.inl ⟨by rfl, ?_⟩) ?_ ?_
            rotate_left
            · intro w'
              go_simp
              with_reducible rfl
            rotate_left
            · simp only [Act.put, List.setIfInBounds_toArray, List.set_cons_zero, List.set_cons_succ, i64_w, i32_w]
              rfl
            refine done_ (done_of HT_.out (by kernel_rfl)) ?_
            try go_wp2
            go_ret
            exact ⟨by first | rfl | (simp [errW_none, errW_some] <;> rfl) | (simp [*, errW_none, errW_some] <;> rfl), by repeat (first | (with_reducible first | exact HB.out | apply below_alloc | apply pw_below_drewN | apply below_drew1) | exact HB.out)⟩
        · rw [if_neg c4] at H
          exact absurd H (by simp)
      · rw [if_neg c3] at H
        have c3b0 : decide (x5_1 < (l0.length : Int)) = false := decide_eq_false c3
        clear c3
        obtain rfl := Option.some.inj H
        go_wp2
        go_ret
        exact ⟨by first | rfl | (simp [errW_none, errW_some] <;> rfl) | (simp [*, errW_none, errW_some] <;> rfl), by repeat (first | (with_reducible first | exact HB.out | apply below_alloc | apply pw_below_drewN | apply below_drew1) | exact HB.out)⟩

/-! ### laws_heldKey: function 26 -/
def laws_heldKey.f (k : Nat) (a0_0 : ByteArray) (l0_1 : List (S87)) (a0_2 : Int) (a1 : Int) : Option (Int) := (laws_heldTagS.f k l0_1 a1).bind fun t217 => (if t217 < 0 then (some (-1)) else (some t217))
theorem laws_heldKey.mono : ∀ a0 a1 a2 a3 k, LeO (laws_heldKey.f k a0 a1 a2 a3) (laws_heldKey.f (k + 1) a0 a1 a2 a3) := by
  intro a0 a1 a2 a3 k
  unfold laws_heldKey.f
  repeat' first
      | (with_reducible exact laws_heldTagS.mono _ _ _)
      | (with_reducible exact LeO.refl _)
      | (with_reducible exact LeO.none _)
      | (with_reducible refine LeO.ite ?_ ?_)
      | (with_reducible refine LeO.bind ?_ (fun _ => ?_))
      | exact laws_heldTagS.mono _ _ _
      | exact LeO.none _
      | refine LeO.ite ?_ ?_
      | refine LeO.bind ?_ (fun _ => ?_)
set_option maxHeartbeats 8000000 in
set_option maxRecDepth 100000 in
theorem laws_heldKey.calls (k : Nat) (a0_0 : ByteArray) (A0_1 : Option Addr) (c0_1 : Nat) (l0_1 : List (S87)) (a0_2 : Int) (a1 : Int) (r : Int) (w : World) (hr0_1 : Kd.C k87 w A0_1 l0_1.length l0_1) (hc0_1 : l0_1.length ≤ c0_1) (h : laws_heldKey.f k a0_0 l0_1 a0_2 a1 = some r) :
    Calls Tryd.prog 26 #[.agg #[.string a0_0, .slice A0_1 l0_1.length c0_1, .int .i64 a0_2], .int .i64 a1] w fun e w' => e = .returned (.int .i64 r) ∧ Below w.heap.size w w' := by
  have hu31 := Tryd.underlying31
  have HR0_1 := Aside0.mk hr0_1
  have HC0_1 := Aside0.mk hc0_1
  clear hr0_1 hc0_1
  have HB := Aside0.mk (Below.refl w.heap.size w)
  have H : ((laws_heldTagS.f k l0_1 a1).bind fun t217 => (if t217 < 0 then (some (-1)) else (some t217))) = some r := h
  clear h
  replace H := Option.bind_eq_some_iff.mp H
  obtain ⟨t217, A30, H⟩ := H
  replace H : (if t217 < 0 then (some (-1)) else (some t217)) = some r := H
  have A3 := Aside0.mk A30
  clear A30
  by_cases c4 : t217 < 0
  · rw [if_pos c4] at H
    have c4b0 : decide (t217 < 0) = true := decide_eq_true c4
    clear c4
    obtain rfl := Option.some.inj H
    go_enter Tryd.func26, Tryd.ntmps26
    go_wp2_with (first | ((with_reducible refine gate_dst (N := 2) rfl ?_); refine box_event ?hg (N := 2) ?hd (cs := #[.string a0_0, .slice A0_1 l0_1.length c0_1, .int .i64 a0_2]) (t := 31) ?hr ?_; (case hd => rfl); (case hg => rfl); (case hr => first | (go_simp; done) | (go_simp; rfl)); intro gb216 hg w5 hbox hb; have n0_ := Aside0.mk (below_step (by repeat (first | (with_reducible first | exact HB.out | apply below_alloc | apply pw_below_drewN | apply below_drew1) | exact HB.out)) hb); have n1_ := Aside0.mk (hbox); have n2_ := Aside0.mk ((by rw [hg]; exact (below_size (by repeat (first | (with_reducible first | exact HB.out | apply below_alloc | apply pw_below_drewN | apply below_drew1) | exact HB.out))) : w.heap.size ≤ gb216)); have n3_ := Aside0.mk ((by rw [hg]; exact (below_size (by repeat (first | (with_reducible first | exact HB.out | apply below_alloc | apply pw_below_drewN | apply below_drew1) | exact HB.out))) : w.heap.size ≤ gb216)); clear HB; have HB := n0_; have BK216 := n1_; have GW216 := n2_; have GE216 := n3_; clear n0_ n1_ n2_ n3_; clear hb hbox hg; have hcz6_0 : w5.cell? ⟨gb216, 0, none⟩ = some (.string a0_0) := (blk_cell BK216.out 0).trans rfl; have hcz6_1 : w5.cell? ⟨gb216, 1, none⟩ = some (.slice A0_1 l0_1.length c0_1) := (blk_cell BK216.out 1).trans rfl; have hcz6_2 : w5.cell? ⟨gb216, 2, none⟩ = some (.int .i64 a0_2) := (blk_cell BK216.out 2).trans rfl; have hfz6_0 := blk_frozen BK216.out 0; have hfz6_1 := blk_frozen BK216.out 1; have hfz6_2 := blk_frozen BK216.out 2) | ((with_reducible refine gate_callee (f := 58) rfl ?_); refine goesL_ (some 8) rfl rfl Tryd.func58 (by kernel_rfl) rfl #[.slice A0_1 l0_1.length c0_1, .int .i64 a1] rfl (by (try simp only [List.map_toArray, List.map_cons, List.map_nil]); first | done | rfl | (simp only [List.length_drop, List.length_take]; rfl)) ?_; (with_reducible refine (laws_heldTagS.calls k _ _ l0_1 a1 t217 _ ?side1 ?side2 A3.out).mono ?_); (case side1 => repeat (first | exact (Kd.C_below HR0_1.out HB.out) | (with_reducible refine Kd.C_alloc ?_ _) | (with_reducible refine Kd.C_drewN ?_ _) | (with_reducible refine Kd.C_drew ?_))); (case side2 => exact HC0_1.out); rintro e w7 ⟨rfl, hb⟩; refine ⟨_, rfl, ?_⟩; have n0_ := Aside0.mk (blk_below (g := gb216) (o := .cells #[.string a0_0, .slice A0_1 l0_1.length c0_1, .int .i64 a0_2] 31 (0, 0)) (by (with_reducible repeat (first | refine blk_drewN ?_ _ | refine blk_drew ?_ | refine blk_alloc ?_ _)); exact BK216.out) hb); have n1_ := Aside0.mk (below_step (by repeat (first | (with_reducible first | exact HB.out | apply below_alloc | apply pw_below_drewN | apply below_drew1 | refine below_set ?_ GE216.out) | exact HB.out)) hb); clear BK216; clear HB; have BK216 := n0_; have HB := n1_; clear n0_ n1_; (try clear hb); (try clear hb2); (try clear hk); (try clear hi)))
    go_ret
    exact ⟨by first | rfl | (simp [errW_none, errW_some] <;> rfl) | (simp [*, errW_none, errW_some] <;> rfl), by repeat (first | (with_reducible first | exact HB.out | apply below_alloc | apply pw_below_drewN | apply below_drew1 | refine below_set ?_ GE216.out) | exact HB.out)⟩
  · rw [if_neg c4] at H
    have c4b0 : decide (t217 < 0) = false := decide_eq_false c4
    clear c4
    obtain rfl := Option.some.inj H
    go_enter Tryd.func26, Tryd.ntmps26
    go_wp2_with (first | ((with_reducible refine gate_dst (N := 2) rfl ?_); refine box_event ?hg (N := 2) ?hd (cs := #[.string a0_0, .slice A0_1 l0_1.length c0_1, .int .i64 a0_2]) (t := 31) ?hr ?_; (case hd => rfl); (case hg => rfl); (case hr => first | (go_simp; done) | (go_simp; rfl)); intro gb216 hg w8 hbox hb; have n0_ := Aside0.mk (below_step (by repeat (first | (with_reducible first | exact HB.out | apply below_alloc | apply pw_below_drewN | apply below_drew1) | exact HB.out)) hb); have n1_ := Aside0.mk (hbox); have n2_ := Aside0.mk ((by rw [hg]; exact (below_size (by repeat (first | (with_reducible first | exact HB.out | apply below_alloc | apply pw_below_drewN | apply below_drew1) | exact HB.out))) : w.heap.size ≤ gb216)); have n3_ := Aside0.mk ((by rw [hg]; exact (below_size (by repeat (first | (with_reducible first | exact HB.out | apply below_alloc | apply pw_below_drewN | apply below_drew1) | exact HB.out))) : w.heap.size ≤ gb216)); clear HB; have HB := n0_; have BK216 := n1_; have GW216 := n2_; have GE216 := n3_; clear n0_ n1_ n2_ n3_; clear hb hbox hg; have hcz9_0 : w8.cell? ⟨gb216, 0, none⟩ = some (.string a0_0) := (blk_cell BK216.out 0).trans rfl; have hcz9_1 : w8.cell? ⟨gb216, 1, none⟩ = some (.slice A0_1 l0_1.length c0_1) := (blk_cell BK216.out 1).trans rfl; have hcz9_2 : w8.cell? ⟨gb216, 2, none⟩ = some (.int .i64 a0_2) := (blk_cell BK216.out 2).trans rfl; have hfz9_0 := blk_frozen BK216.out 0; have hfz9_1 := blk_frozen BK216.out 1; have hfz9_2 := blk_frozen BK216.out 2) | ((with_reducible refine gate_callee (f := 58) rfl ?_); refine goesL_ (some 8) rfl rfl Tryd.func58 (by kernel_rfl) rfl #[.slice A0_1 l0_1.length c0_1, .int .i64 a1] rfl (by (try simp only [List.map_toArray, List.map_cons, List.map_nil]); first | done | rfl | (simp only [List.length_drop, List.length_take]; rfl)) ?_; (with_reducible refine (laws_heldTagS.calls k _ _ l0_1 a1 t217 _ ?side1 ?side2 A3.out).mono ?_); (case side1 => repeat (first | exact (Kd.C_below HR0_1.out HB.out) | (with_reducible refine Kd.C_alloc ?_ _) | (with_reducible refine Kd.C_drewN ?_ _) | (with_reducible refine Kd.C_drew ?_))); (case side2 => exact HC0_1.out); rintro e w10 ⟨rfl, hb⟩; refine ⟨_, rfl, ?_⟩; have n0_ := Aside0.mk (blk_below (g := gb216) (o := .cells #[.string a0_0, .slice A0_1 l0_1.length c0_1, .int .i64 a0_2] 31 (0, 0)) (by (with_reducible repeat (first | refine blk_drewN ?_ _ | refine blk_drew ?_ | refine blk_alloc ?_ _)); exact BK216.out) hb); have n1_ := Aside0.mk (below_step (by repeat (first | (with_reducible first | exact HB.out | apply below_alloc | apply pw_below_drewN | apply below_drew1 | refine below_set ?_ GE216.out) | exact HB.out)) hb); clear BK216; clear HB; have BK216 := n0_; have HB := n1_; clear n0_ n1_; (try clear hb); (try clear hb2); (try clear hk); (try clear hi)))
    go_ret
    exact ⟨by first | rfl | (simp [errW_none, errW_some] <;> rfl) | (simp [*, errW_none, errW_some] <;> rfl), by repeat (first | (with_reducible first | exact HB.out | apply below_alloc | apply pw_below_drewN | apply below_drew1 | refine below_set ?_ GE216.out) | exact HB.out)⟩

/-! ### laws_FnExactReadKey: function 5, a law by hand -/
def laws_FnExactReadKey.f (k : Nat) (l0 : List Int) : Option (Bool) := if 1048576 < (l0.length : Int) then some true else (laws_toByteS.f k l0).bind fun t1 => (spec_ReadKey.f k t1).bind fun bt2 => (laws_toByteS.f k l0).bind fun t6 => (impl_ReadKey.f k t6).bind fun bt7 => (laws_eqKey.f k bt7.1 bt7.2.1 bt7.2.2.1 bt2.1 bt2.2.1 bt2.2.2.1).bind fun t11 => (laws_toByteS.f k l0).bind fun t12 => (laws_eqByteS.f k t6 t12).bind fun t13 => (laws_markByteS.f k t6 1).bind fun bt14 => (laws_eqKey.f k bt7.1 bt7.2.1 bt7.2.2.1 bt2.1 bt2.2.1 bt2.2.2.1).bind fun t16 => (laws_markKey.f k bt7.1 bt7.2.1 bt7.2.2.1 1).bind fun bt17 => (laws_heldKey.f k bt7.1 bt17.2 bt7.2.2.1 1).bind fun t19 => (laws_toByteS.f k l0).bind fun t20 => (impl_ReadKey.f k t20).bind fun bt21 => (laws_eqKey.f k bt21.1 bt21.2.1 bt21.2.2.1 bt2.1 bt2.2.1 bt2.2.2.1).bind fun t25 => (laws_heldKey.f k bt7.1 bt17.2 bt7.2.2.1 1).bind fun t26 => if t11 = true ∧ bt7.2.2.2 = bt2.2.2.2 ∧ t13 = true ∧ ¬ bt14.1 < 0 ∧ t16 = true ∧ bt7.2.2.2 = bt2.2.2.2 ∧ ¬ t19 < 0 ∧ t19 = bt17.1 ∧ t25 = true ∧ bt21.2.2.2 = bt2.2.2.2 ∧ ¬ t26 < 0 ∧ t26 = bt17.1 then some true else none
theorem laws_FnExactReadKey.mono : ∀ a0 k, LeO (laws_FnExactReadKey.f k a0) (laws_FnExactReadKey.f (k + 1) a0) := by
  intro a0 k
  unfold laws_FnExactReadKey.f
  repeat' first
      | (with_reducible exact impl_ReadKey.mono _ _)
      | (with_reducible exact laws_eqByteS.mono _ _ _)
      | (with_reducible exact laws_eqKey.mono _ _ _ _ _ _ _)
      | (with_reducible exact laws_heldKey.mono _ _ _ _ _)
      | (with_reducible exact laws_markByteS.mono _ _ _)
      | (with_reducible exact laws_markKey.mono _ _ _ _ _)
      | (with_reducible exact laws_toByteS.mono _ _)
      | (with_reducible exact spec_ReadKey.mono _ _)
      | (with_reducible exact LeO.refl _)
      | (with_reducible exact LeO.none _)
      | (with_reducible refine LeO.ite ?_ ?_)
      | (with_reducible refine LeO.bind ?_ (fun _ => ?_))
      | exact impl_ReadKey.mono _ _
      | exact laws_eqByteS.mono _ _ _
      | exact laws_eqKey.mono _ _ _ _ _ _ _
      | exact laws_heldKey.mono _ _ _ _ _
      | exact laws_markByteS.mono _ _ _
      | exact laws_markKey.mono _ _ _ _ _
      | exact laws_toByteS.mono _ _
      | exact spec_ReadKey.mono _ _
      | exact LeO.none _
      | refine LeO.ite ?_ ?_
      | refine LeO.bind ?_ (fun _ => ?_)
set_option maxHeartbeats 16000000 in
set_option maxRecDepth 100000 in
theorem laws_FnExactReadKey.calls (k : Nat) (A0 : Option Addr) (c0 : Nat) (l0 : List Int) (r : Bool) (w : World) (hr0 : Kd.C (Kd.int .u8) w A0 l0.length l0) (hc0 : l0.length ≤ c0) (h : laws_FnExactReadKey.f k l0 = some r) :
    Calls Tryd.prog 5 #[.slice A0 l0.length c0] w fun e w' => e = .returned (.bool r) ∧ Below w.heap.size w w' := by
  have hu31 := Tryd.underlying31
  have HR0 := Aside0.mk hr0
  have HC0 := Aside0.mk hc0
  clear hr0 hc0
  have HB := Aside0.mk (Below.refl w.heap.size w)
  unfold laws_FnExactReadKey.f at h
  by_cases hl0 : 1048576 < (l0.length : Int)
  · rw [if_pos hl0] at h
    have hlb0 := decide_eq_true hl0
    clear hl0
    obtain rfl := Option.some.inj h
    clear h
    go_enter Tryd.func5, Tryd.ntmps5
    go_wp2
    go_ret
    exact ⟨by first | rfl | (simp; done), (by repeat (first | exact HB.out | apply below_alloc | apply pw_below_drewN | apply below_drew1))⟩
  rw [if_neg hl0] at h
  have hlb0 := decide_eq_false hl0
  clear hl0
  replace h := Option.bind_eq_some_iff.mp h
  obtain ⟨t1, hA1, h⟩ := h
  have A1_ := Aside0.mk (show laws_toByteS.f k l0 = some t1 from hA1)
  clear hA1
  try dsimp only at h
  replace h := Option.bind_eq_some_iff.mp h
  obtain ⟨⟨t2, t3, t4, t5⟩, hA2, h⟩ := h
  have A2_ := Aside0.mk (show spec_ReadKey.f k t1 = some (t2, t3, t4, t5) from hA2)
  clear hA2
  try dsimp only at h
  replace h := Option.bind_eq_some_iff.mp h
  obtain ⟨t6, hA3, h⟩ := h
  have A3_ := Aside0.mk (show laws_toByteS.f k l0 = some t6 from hA3)
  clear hA3
  try dsimp only at h
  replace h := Option.bind_eq_some_iff.mp h
  obtain ⟨⟨t7, t8, t9, t10⟩, hA4, h⟩ := h
  have A4_ := Aside0.mk (show impl_ReadKey.f k t6 = some (t7, t8, t9, t10) from hA4)
  clear hA4
  try dsimp only at h
  replace h := Option.bind_eq_some_iff.mp h
  obtain ⟨t11, hA5, h⟩ := h
  have A5_ := Aside0.mk (show laws_eqKey.f k t7 t8 t9 t2 t3 t4 = some t11 from hA5)
  clear hA5
  try dsimp only at h
  replace h := Option.bind_eq_some_iff.mp h
  obtain ⟨t12, hA6, h⟩ := h
  have A6_ := Aside0.mk (show laws_toByteS.f k l0 = some t12 from hA6)
  clear hA6
  try dsimp only at h
  replace h := Option.bind_eq_some_iff.mp h
  obtain ⟨t13, hA7, h⟩ := h
  have A7_ := Aside0.mk (show laws_eqByteS.f k t6 t12 = some t13 from hA7)
  clear hA7
  try dsimp only at h
  replace h := Option.bind_eq_some_iff.mp h
  obtain ⟨⟨t14, t15⟩, hA8, h⟩ := h
  have A8_ := Aside0.mk (show laws_markByteS.f k t6 1 = some (t14, t15) from hA8)
  clear hA8
  try dsimp only at h
  replace h := Option.bind_eq_some_iff.mp h
  obtain ⟨t16, hA9, h⟩ := h
  have A9_ := Aside0.mk (show laws_eqKey.f k t7 t8 t9 t2 t3 t4 = some t16 from hA9)
  clear hA9
  try dsimp only at h
  replace h := Option.bind_eq_some_iff.mp h
  obtain ⟨⟨t17, t18⟩, hA10, h⟩ := h
  have A10_ := Aside0.mk (show laws_markKey.f k t7 t8 t9 1 = some (t17, t18) from hA10)
  clear hA10
  try dsimp only at h
  replace h := Option.bind_eq_some_iff.mp h
  obtain ⟨t19, hA11, h⟩ := h
  have A11_ := Aside0.mk (show laws_heldKey.f k t7 t18 t9 1 = some t19 from hA11)
  clear hA11
  try dsimp only at h
  replace h := Option.bind_eq_some_iff.mp h
  obtain ⟨t20, hA12, h⟩ := h
  have A12_ := Aside0.mk (show laws_toByteS.f k l0 = some t20 from hA12)
  clear hA12
  try dsimp only at h
  replace h := Option.bind_eq_some_iff.mp h
  obtain ⟨⟨t21, t22, t23, t24⟩, hA13, h⟩ := h
  have A13_ := Aside0.mk (show impl_ReadKey.f k t20 = some (t21, t22, t23, t24) from hA13)
  clear hA13
  try dsimp only at h
  replace h := Option.bind_eq_some_iff.mp h
  obtain ⟨t25, hA14, h⟩ := h
  have A14_ := Aside0.mk (show laws_eqKey.f k t21 t22 t23 t2 t3 t4 = some t25 from hA14)
  clear hA14
  try dsimp only at h
  replace h := Option.bind_eq_some_iff.mp h
  obtain ⟨t26, hA15, h⟩ := h
  have A15_ := Aside0.mk (show laws_heldKey.f k t7 t18 t9 1 = some t26 from hA15)
  clear hA15
  try dsimp only at h
  by_cases hcond : t11 = true ∧ t10 = t5 ∧ t13 = true ∧ ¬ t14 < 0 ∧ t16 = true ∧ t10 = t5 ∧ ¬ t19 < 0 ∧ t19 = t17 ∧ t25 = true ∧ t24 = t5 ∧ ¬ t26 < 0 ∧ t26 = t17
  · rw [if_pos hcond] at h
    obtain rfl := Option.some.inj h
    clear h
    obtain ⟨z0_, z1_, z2_, z3_, z4_, z5_, z6_, z7_, z8_, z9_, z10_, z11_⟩ := hcond
    subst z0_
    have zb1 := bne_eq_false_iff_eq.mpr z1_
    have ze1 := beq_iff_eq.mpr z1_
    clear z1_
    subst z2_
    have zb3 := decide_eq_false z3_
    clear z3_
    subst z4_
    have zb5 := bne_eq_false_iff_eq.mpr z5_
    have ze5 := beq_iff_eq.mpr z5_
    clear z5_
    have zb6 := decide_eq_false z6_
    clear z6_
    have zb7 := bne_eq_false_iff_eq.mpr z7_
    have ze7 := beq_iff_eq.mpr z7_
    clear z7_
    subst z8_
    have zb9 := bne_eq_false_iff_eq.mpr z9_
    have ze9 := beq_iff_eq.mpr z9_
    clear z9_
    have zb10 := decide_eq_false z10_
    clear z10_
    have zb11 := bne_eq_false_iff_eq.mpr z11_
    have ze11 := beq_iff_eq.mpr z11_
    clear z11_
    go_enter Tryd.func5, Tryd.ntmps5
    go_wp2_with (first | ((with_reducible refine gate_callee (f := 24) rfl ?_); refine goesL_ (some 18) rfl rfl Tryd.func24 (by kernel_rfl) rfl #[.slice A0 l0.length c0] rfl (by (try simp only [List.map_toArray, List.map_cons, List.map_nil]); first | done | rfl | (simp only [List.length_drop, List.length_take]; rfl)) ?_; (with_reducible refine (laws_toByteS.calls k _ _ l0 t1 _ ?side1 ?side2 A1_.out).mono ?_); (case side1 => repeat (first | exact (Kd.C_below HR0.out HB.out) | (with_reducible refine Kd.C_alloc ?_ _) | (with_reducible refine Kd.C_drewN ?_ _) | (with_reducible refine Kd.C_drew ?_))); (case side2 => exact HC0.out); rintro e w1_ ⟨v101, rfl, ho101, hb⟩; refine ⟨_, rfl, ?_⟩; have sz_ : w.heap.size ≤ w1_.heap.size := hb.size; have n0_ := Aside0.mk (below_step (by repeat (first | exact HB.out | apply below_alloc | apply pw_below_drewN | apply below_drew1)) hb); have n1_ := Aside0.mk (mineR ho101 (show _ = w.heap.size from rfl) (below_size (by repeat (first | exact HB.out | apply below_alloc | apply pw_below_drewN | apply below_drew1)))); clear HB; have HB := n0_; have HO101 := n1_; clear n0_ n1_; have SZ1 := Aside0.mk sz_; clear sz_ hb ho101; obtain ⟨A101, c101, eo101⟩ := Kd.R_slice HO101.out; subst eo101) | ((with_reducible refine gate_callee (f := 23) rfl ?_); refine goesL_ (some 19) rfl rfl Tryd.func23 (by kernel_rfl) rfl #[.slice A101 t1.length c101] rfl (by (try simp only [List.map_toArray, List.map_cons, List.map_nil]); first | done | rfl | (simp only [List.length_drop, List.length_take]; rfl)) ?_; (with_reducible refine (spec_ReadKey.calls k _ _ t1 t2 t3 t4 t5 _ ?side1 ?side2 A2_.out).mono ?_); (case side1 => repeat (first | exact (Kd.R_reads' HO101.out).2.2 | (with_reducible refine Kd.C_alloc ?_ _) | (with_reducible refine Kd.C_drewN ?_ _) | (with_reducible refine Kd.C_drew ?_))); (case side2 => exact (Kd.R_reads' HO101.out).2.1); rintro e w2_ ⟨v103, rfl, ho103, hb⟩; refine ⟨_, rfl, ?_⟩; have sz_ : w1_.heap.size ≤ w2_.heap.size := hb.size; have n0_ := Aside0.mk (Kd.R_below (by (with_reducible repeat (first | apply Kd.R_alloc | apply Kd.R_drewN | apply Kd.R_drew)); exact HO101.out) hb); have n1_ := Aside0.mk (below_step (by repeat (first | exact HB.out | apply below_alloc | apply pw_below_drewN | apply below_drew1)) hb); have n2_ := Aside0.mk (mineR ho103 (show _ = w1_.heap.size from rfl) (below_size (by repeat (first | exact HB.out | apply below_alloc | apply pw_below_drewN | apply below_drew1)))); clear HO101 HB; have HO101 := n0_; have HB := n1_; have HO103 := n2_; clear n0_ n1_ n2_; have SZ2 := Aside0.mk sz_; clear sz_ hb ho103; obtain ⟨A103, c103, eo103⟩ := Kd.R_slice HO103.out; subst eo103) | ((with_reducible refine gate_dst (N := 3) rfl ?_); refine box_event ?hg (N := 3) ?hd (cs := #[.string (⟨#[]⟩), .slice none 0 0, .int .i64 0]) (t := 31) ?hr ?_; (case hd => rfl); (case hg => rfl); (case hr => first | (go_simp; done) | (go_simp; rfl)); intro g3_ hg w3_ hbox hb; have n0_ := Aside0.mk (Kd.R_below (by (with_reducible repeat (first | apply Kd.R_alloc | apply Kd.R_drewN | apply Kd.R_drew)); exact HO101.out) hb); have n1_ := Aside0.mk (Kd.R_below (by (with_reducible repeat (first | apply Kd.R_alloc | apply Kd.R_drewN | apply Kd.R_drew)); exact HO103.out) hb); have n2_ := Aside0.mk (below_step (by repeat (first | exact HB.out | apply below_alloc | apply pw_below_drewN | apply below_drew1)) hb); clear HO101 HO103 HB; have HO101 := n0_; have HO103 := n1_; have HB := n2_; clear n0_ n1_ n2_; have SZ3 := Aside0.mk (show w2_.heap.size ≤ w3_.heap.size from hb.size); have BK3 := Aside0.mk hbox; have GB3 := Aside0.mk (show g3_ = w2_.heap.size from hg); have GL3 := Aside0.mk (blk_lt hbox); have GE3 := Aside0.mk (show w.heap.size ≤ g3_ from (by rw [GB3.out]; exact (Nat.le_trans SZ1.out SZ2.out))); clear hb hbox hg; have hc3_3_0 : w3_.cell? ⟨g3_, 0, none⟩ = some (.string (⟨#[]⟩)) := (blk_cell BK3.out 0).trans rfl; have hc3_3_1 : w3_.cell? ⟨g3_, 1, none⟩ = some (.slice none 0 0) := (blk_cell BK3.out 1).trans rfl; have hc3_3_2 : w3_.cell? ⟨g3_, 2, none⟩ = some (.int .i64 0) := (blk_cell BK3.out 2).trans rfl; have hf3_3_0 := blk_frozen BK3.out 0; have hf3_3_1 := blk_frozen BK3.out 1; have hf3_3_2 := blk_frozen BK3.out 2) | ((with_reducible refine gate_store (t := 31) (p := 3) rfl ?_); refine store_event (t := 31) (p := 3) (v := ?vo4) (w1 := setAll w3_ g3_ 0 [.string t2, .slice A103 t3.length c103, .int .i64 t4]) ?hg ?ho ?hn ?hr ?_; (case ho => rfl); (case hg => rfl); (case hn => rfl); (case hr => first | (go_simp; done) | (go_simp; rfl)); intro w4_ hw; have on_ : On g3_ w3_ w4_ := (by rw [hw]; exact setAll_on _ _ _ _); have bk_ : w4_.heap[g3_]? = some (.cells #[.string t2, .slice A103 t3.length c103, .int .i64 t4] 31 (0, 0)) := (by rw [hw]; exact setAll_blk _ BK3.out rfl); clear hw; (try clear hc3_3_0); (try clear hc3_3_1); (try clear hc3_3_2); (try clear hf3_3_0); (try clear hf3_3_1); (try clear hf3_3_2); have n0_ := Aside0.mk (on_.Rt (by (with_reducible repeat (first | apply Kd.R_alloc | apply Kd.R_drewN | apply Kd.R_drew)); exact HO101.out) BK3.out (by decide)); have n1_ := Aside0.mk (on_.Rt (by (with_reducible repeat (first | apply Kd.R_alloc | apply Kd.R_drewN | apply Kd.R_drew)); exact HO103.out) BK3.out (by decide)); have n2_ := Aside0.mk (on_.below HB.out GE3.out); have n3_ := Aside0.mk (bk_); clear HO101 HO103 HB; have HO101 := n0_; have HO103 := n1_; have HB := n2_; have BK3 := n3_; clear n0_ n1_ n2_ n3_; have SZ4 := Aside0.mk (show w3_.heap.size ≤ w4_.heap.size from Nat.le_of_eq on_.size.symm); clear on_ bk_) | ((with_reducible refine gate_callee (f := 24) rfl ?_); refine goesL_ (some 23) rfl rfl Tryd.func24 (by kernel_rfl) rfl #[.slice A0 l0.length c0] rfl (by (try simp only [List.map_toArray, List.map_cons, List.map_nil]); first | done | rfl | (simp only [List.length_drop, List.length_take]; rfl)) ?_; (with_reducible refine (laws_toByteS.calls k _ _ l0 t6 _ ?side1 ?side2 A3_.out).mono ?_); (case side1 => repeat (first | exact (Kd.C_below HR0.out HB.out) | (with_reducible refine Kd.C_alloc ?_ _) | (with_reducible refine Kd.C_drewN ?_ _) | (with_reducible refine Kd.C_drew ?_))); (case side2 => exact HC0.out); rintro e w5_ ⟨v106, rfl, ho106, hb⟩; refine ⟨_, rfl, ?_⟩; have sz_ : w4_.heap.size ≤ w5_.heap.size := hb.size; have n0_ := Aside0.mk (Kd.R_below (by (with_reducible repeat (first | apply Kd.R_alloc | apply Kd.R_drewN | apply Kd.R_drew)); exact HO101.out) hb); have n1_ := Aside0.mk (Kd.R_below (by (with_reducible repeat (first | apply Kd.R_alloc | apply Kd.R_drewN | apply Kd.R_drew)); exact HO103.out) hb); have n2_ := Aside0.mk (blk_below (g := g3_) (o := .cells #[.string t2, .slice A103 t3.length c103, .int .i64 t4] 31 (0, 0)) (by (with_reducible repeat (first | refine blk_drewN ?_ _ | refine blk_drew ?_ | refine blk_alloc ?_ _)); exact BK3.out) hb); have n3_ := Aside0.mk (below_step (by repeat (first | exact HB.out | apply below_alloc | apply pw_below_drewN | apply below_drew1)) hb); have n4_ := Aside0.mk (mineR ho106 (show _ = w4_.heap.size from rfl) (below_size (by repeat (first | exact HB.out | apply below_alloc | apply pw_below_drewN | apply below_drew1)))); clear HO101 HO103 BK3 HB; have HO101 := n0_; have HO103 := n1_; have BK3 := n2_; have HB := n3_; have HO106 := n4_; clear n0_ n1_ n2_ n3_ n4_; have SZ5 := Aside0.mk sz_; clear sz_ hb ho106; obtain ⟨A106, c106, eo106⟩ := Kd.R_slice HO106.out; subst eo106) | ((with_reducible refine gate_callee (f := 25) rfl ?_); refine goesL_ (some 26) rfl rfl Tryd.func25 (by kernel_rfl) rfl #[.slice A106 t6.length c106] rfl (by (try simp only [List.map_toArray, List.map_cons, List.map_nil]); first | done | rfl | (simp only [List.length_drop, List.length_take]; rfl)) ?_; (with_reducible refine (impl_ReadKey.calls k _ _ t6 t7 t8 t9 t10 _ ?side1 ?side2 A4_.out).mono ?_); (case side1 => repeat (first | exact (Kd.R_reads' HO106.out).2.2 | (with_reducible refine Kd.C_alloc ?_ _) | (with_reducible refine Kd.C_drewN ?_ _) | (with_reducible refine Kd.C_drew ?_))); (case side2 => exact (Kd.R_reads' HO106.out).2.1); rintro e w6_ ⟨v108, rfl, ho108, hb⟩; refine ⟨_, rfl, ?_⟩; have sz_ : w5_.heap.size ≤ w6_.heap.size := hb.size; have n0_ := Aside0.mk (Kd.R_below (by (with_reducible repeat (first | apply Kd.R_alloc | apply Kd.R_drewN | apply Kd.R_drew)); exact HO101.out) hb); have n1_ := Aside0.mk (Kd.R_below (by (with_reducible repeat (first | apply Kd.R_alloc | apply Kd.R_drewN | apply Kd.R_drew)); exact HO103.out) hb); have n2_ := Aside0.mk (Kd.R_below (by (with_reducible repeat (first | apply Kd.R_alloc | apply Kd.R_drewN | apply Kd.R_drew)); exact HO106.out) hb); have n3_ := Aside0.mk (blk_below (g := g3_) (o := .cells #[.string t2, .slice A103 t3.length c103, .int .i64 t4] 31 (0, 0)) (by (with_reducible repeat (first | refine blk_drewN ?_ _ | refine blk_drew ?_ | refine blk_alloc ?_ _)); exact BK3.out) hb); have n4_ := Aside0.mk (below_step (by repeat (first | exact HB.out | apply below_alloc | apply pw_below_drewN | apply below_drew1)) hb); have n5_ := Aside0.mk (mineR ho108 (show _ = w5_.heap.size from rfl) (below_size (by repeat (first | exact HB.out | apply below_alloc | apply pw_below_drewN | apply below_drew1)))); clear HO101 HO103 HO106 BK3 HB; have HO101 := n0_; have HO103 := n1_; have HO106 := n2_; have BK3 := n3_; have HB := n4_; have HO108 := n5_; clear n0_ n1_ n2_ n3_ n4_ n5_; have SZ6 := Aside0.mk sz_; clear sz_ hb ho108; obtain ⟨A108, c108, eo108⟩ := Kd.R_slice HO108.out; subst eo108) | ((with_reducible refine gate_dst (N := 6) rfl ?_); refine box_event ?hg (N := 6) ?hd (cs := #[.string (⟨#[]⟩), .slice none 0 0, .int .i64 0]) (t := 31) ?hr ?_; (case hd => rfl); (case hg => rfl); (case hr => first | (go_simp; done) | (go_simp; rfl)); intro g6_ hg w7_ hbox hb; have n0_ := Aside0.mk (Kd.R_below (by (with_reducible repeat (first | apply Kd.R_alloc | apply Kd.R_drewN | apply Kd.R_drew)); exact HO101.out) hb); have n1_ := Aside0.mk (Kd.R_below (by (with_reducible repeat (first | apply Kd.R_alloc | apply Kd.R_drewN | apply Kd.R_drew)); exact HO103.out) hb); have n2_ := Aside0.mk (Kd.R_below (by (with_reducible repeat (first | apply Kd.R_alloc | apply Kd.R_drewN | apply Kd.R_drew)); exact HO106.out) hb); have n3_ := Aside0.mk (Kd.R_below (by (with_reducible repeat (first | apply Kd.R_alloc | apply Kd.R_drewN | apply Kd.R_drew)); exact HO108.out) hb); have n4_ := Aside0.mk (blk_below (g := g3_) (o := .cells #[.string t2, .slice A103 t3.length c103, .int .i64 t4] 31 (0, 0)) (by (with_reducible repeat (first | refine blk_drewN ?_ _ | refine blk_drew ?_ | refine blk_alloc ?_ _)); exact BK3.out) hb); have n5_ := Aside0.mk (below_step (by repeat (first | exact HB.out | apply below_alloc | apply pw_below_drewN | apply below_drew1)) hb); clear HO101 HO103 HO106 HO108 BK3 HB; have HO101 := n0_; have HO103 := n1_; have HO106 := n2_; have HO108 := n3_; have BK3 := n4_; have HB := n5_; clear n0_ n1_ n2_ n3_ n4_ n5_; have SZ7 := Aside0.mk (show w6_.heap.size ≤ w7_.heap.size from hb.size); have BK6 := Aside0.mk hbox; have GB6 := Aside0.mk (show g6_ = w6_.heap.size from hg); have GL6 := Aside0.mk (blk_lt hbox); have GE6 := Aside0.mk (show w.heap.size ≤ g6_ from (by rw [GB6.out]; exact (Nat.le_trans (Nat.le_trans (Nat.le_trans (Nat.le_trans (Nat.le_trans SZ1.out SZ2.out) SZ3.out) SZ4.out) SZ5.out) SZ6.out))); clear hb hbox hg; have hc7_6_0 : w7_.cell? ⟨g6_, 0, none⟩ = some (.string (⟨#[]⟩)) := (blk_cell BK6.out 0).trans rfl; have hc7_6_1 : w7_.cell? ⟨g6_, 1, none⟩ = some (.slice none 0 0) := (blk_cell BK6.out 1).trans rfl; have hc7_6_2 : w7_.cell? ⟨g6_, 2, none⟩ = some (.int .i64 0) := (blk_cell BK6.out 2).trans rfl; have hf7_6_0 := blk_frozen BK6.out 0; have hf7_6_1 := blk_frozen BK6.out 1; have hf7_6_2 := blk_frozen BK6.out 2) | ((with_reducible refine gate_store (t := 31) (p := 6) rfl ?_); refine store_event (t := 31) (p := 6) (v := ?vo8) (w1 := setAll w7_ g6_ 0 [.string t7, .slice A108 t8.length c108, .int .i64 t9]) ?hg ?ho ?hn ?hr ?_; (case ho => rfl); (case hg => rfl); (case hn => rfl); (case hr => first | (go_simp; done) | (go_simp; rfl)); intro w8_ hw; have on_ : On g6_ w7_ w8_ := (by rw [hw]; exact setAll_on _ _ _ _); have bk_ : w8_.heap[g6_]? = some (.cells #[.string t7, .slice A108 t8.length c108, .int .i64 t9] 31 (0, 0)) := (by rw [hw]; exact setAll_blk _ BK6.out rfl); clear hw; (try clear hc7_6_0); (try clear hc7_6_1); (try clear hc7_6_2); (try clear hf7_6_0); (try clear hf7_6_1); (try clear hf7_6_2); have n0_ := Aside0.mk (on_.Rt (by (with_reducible repeat (first | apply Kd.R_alloc | apply Kd.R_drewN | apply Kd.R_drew)); exact HO101.out) BK6.out (by decide)); have n1_ := Aside0.mk (on_.Rt (by (with_reducible repeat (first | apply Kd.R_alloc | apply Kd.R_drewN | apply Kd.R_drew)); exact HO103.out) BK6.out (by decide)); have n2_ := Aside0.mk (on_.Rt (by (with_reducible repeat (first | apply Kd.R_alloc | apply Kd.R_drewN | apply Kd.R_drew)); exact HO106.out) BK6.out (by decide)); have n3_ := Aside0.mk (on_.Rt (by (with_reducible repeat (first | apply Kd.R_alloc | apply Kd.R_drewN | apply Kd.R_drew)); exact HO108.out) BK6.out (by decide)); have n4_ := Aside0.mk (on_.blk BK3.out (by rw [GB6.out]; exact Nat.ne_of_lt (Nat.lt_of_lt_of_le GL3.out (Nat.le_trans (Nat.le_trans SZ4.out SZ5.out) SZ6.out)))); have n5_ := Aside0.mk (on_.below HB.out GE6.out); have n6_ := Aside0.mk (bk_); clear HO101 HO103 HO106 HO108 BK3 HB; have HO101 := n0_; have HO103 := n1_; have HO106 := n2_; have HO108 := n3_; have BK3 := n4_; have HB := n5_; have BK6 := n6_; clear n0_ n1_ n2_ n3_ n4_ n5_ n6_; have SZ8 := Aside0.mk (show w7_.heap.size ≤ w8_.heap.size from Nat.le_of_eq on_.size.symm); clear on_ bk_; have hc8_6_0 : w8_.cell? ⟨g6_, 0, none⟩ = some (.string t7) := (blk_cell BK6.out 0).trans rfl; have hc8_6_1 : w8_.cell? ⟨g6_, 1, none⟩ = some (.slice A108 t8.length c108) := (blk_cell BK6.out 1).trans rfl; have hc8_6_2 : w8_.cell? ⟨g6_, 2, none⟩ = some (.int .i64 t9) := (blk_cell BK6.out 2).trans rfl; have hc8_3_0 : w8_.cell? ⟨g3_, 0, none⟩ = some (.string t2) := (blk_cell BK3.out 0).trans rfl; have hc8_3_1 : w8_.cell? ⟨g3_, 1, none⟩ = some (.slice A103 t3.length c103) := (blk_cell BK3.out 1).trans rfl; have hc8_3_2 : w8_.cell? ⟨g3_, 2, none⟩ = some (.int .i64 t4) := (blk_cell BK3.out 2).trans rfl) | ((with_reducible refine gate_callee (f := 12) rfl ?_); refine goesL_ (some 31) rfl rfl Tryd.func12 (by kernel_rfl) rfl #[.agg #[.string t7, .slice A108 t8.length c108, .int .i64 t9], .agg #[.string t2, .slice A103 t3.length c103, .int .i64 t4]] rfl (by (try simp only [List.map_toArray, List.map_cons, List.map_nil]); first | done | rfl | (simp only [List.length_drop, List.length_take]; rfl)) ?_; (with_reducible refine (laws_eqKey.calls k t7 _ _ t8 t9 t2 _ _ t3 t4 true _ ?side1 ?side2 ?side3 ?side4 A5_.out).mono ?_); (case side1 => repeat (first | exact (Kd.R_reads' HO108.out).2.2 | (with_reducible refine Kd.C_alloc ?_ _) | (with_reducible refine Kd.C_drewN ?_ _) | (with_reducible refine Kd.C_drew ?_))); (case side2 => exact (Kd.R_reads' HO108.out).2.1); (case side3 => repeat (first | exact (Kd.R_reads' HO103.out).2.2 | (with_reducible refine Kd.C_alloc ?_ _) | (with_reducible refine Kd.C_drewN ?_ _) | (with_reducible refine Kd.C_drew ?_))); (case side4 => exact (Kd.R_reads' HO103.out).2.1); rintro e w9_ ⟨rfl, hb⟩; refine ⟨_, rfl, ?_⟩; have sz_ : w8_.heap.size ≤ w9_.heap.size := hb.size; (try clear hc8_6_0); (try clear hc8_6_1); (try clear hc8_6_2); (try clear hc8_3_0); (try clear hc8_3_1); (try clear hc8_3_2); have n0_ := Aside0.mk (Kd.R_below (by (with_reducible repeat (first | apply Kd.R_alloc | apply Kd.R_drewN | apply Kd.R_drew)); exact HO101.out) hb); have n1_ := Aside0.mk (Kd.R_below (by (with_reducible repeat (first | apply Kd.R_alloc | apply Kd.R_drewN | apply Kd.R_drew)); exact HO103.out) hb); have n2_ := Aside0.mk (Kd.R_below (by (with_reducible repeat (first | apply Kd.R_alloc | apply Kd.R_drewN | apply Kd.R_drew)); exact HO106.out) hb); have n3_ := Aside0.mk (Kd.R_below (by (with_reducible repeat (first | apply Kd.R_alloc | apply Kd.R_drewN | apply Kd.R_drew)); exact HO108.out) hb); have n4_ := Aside0.mk (blk_below (g := g3_) (o := .cells #[.string t2, .slice A103 t3.length c103, .int .i64 t4] 31 (0, 0)) (by (with_reducible repeat (first | refine blk_drewN ?_ _ | refine blk_drew ?_ | refine blk_alloc ?_ _)); exact BK3.out) hb); have n5_ := Aside0.mk (blk_below (g := g6_) (o := .cells #[.string t7, .slice A108 t8.length c108, .int .i64 t9] 31 (0, 0)) (by (with_reducible repeat (first | refine blk_drewN ?_ _ | refine blk_drew ?_ | refine blk_alloc ?_ _)); exact BK6.out) hb); have n6_ := Aside0.mk (below_step (by repeat (first | exact HB.out | apply below_alloc | apply pw_below_drewN | apply below_drew1)) hb); clear HO101 HO103 HO106 HO108 BK3 BK6 HB; have HO101 := n0_; have HO103 := n1_; have HO106 := n2_; have HO108 := n3_; have BK3 := n4_; have BK6 := n5_; have HB := n6_; clear n0_ n1_ n2_ n3_ n4_ n5_ n6_; have SZ9 := Aside0.mk sz_; clear sz_ hb) | ((with_reducible refine gate_callee (f := 24) rfl ?_); refine goesL_ (some 40) rfl rfl Tryd.func24 (by kernel_rfl) rfl #[.slice A0 l0.length c0] rfl (by (try simp only [List.map_toArray, List.map_cons, List.map_nil]); first | done | rfl | (simp only [List.length_drop, List.length_take]; rfl)) ?_; (with_reducible refine (laws_toByteS.calls k _ _ l0 t12 _ ?side1 ?side2 A6_.out).mono ?_); (case side1 => repeat (first | exact (Kd.C_below HR0.out HB.out) | (with_reducible refine Kd.C_alloc ?_ _) | (with_reducible refine Kd.C_drewN ?_ _) | (with_reducible refine Kd.C_drew ?_))); (case side2 => exact HC0.out); rintro e w10_ ⟨v112, rfl, ho112, hb⟩; refine ⟨_, rfl, ?_⟩; have sz_ : w9_.heap.size ≤ w10_.heap.size := hb.size; have n0_ := Aside0.mk (Kd.R_below (by (with_reducible repeat (first | apply Kd.R_alloc | apply Kd.R_drewN | apply Kd.R_drew)); exact HO101.out) hb); have n1_ := Aside0.mk (Kd.R_below (by (with_reducible repeat (first | apply Kd.R_alloc | apply Kd.R_drewN | apply Kd.R_drew)); exact HO103.out) hb); have n2_ := Aside0.mk (Kd.R_below (by (with_reducible repeat (first | apply Kd.R_alloc | apply Kd.R_drewN | apply Kd.R_drew)); exact HO106.out) hb); have n3_ := Aside0.mk (Kd.R_below (by (with_reducible repeat (first | apply Kd.R_alloc | apply Kd.R_drewN | apply Kd.R_drew)); exact HO108.out) hb); have n4_ := Aside0.mk (blk_below (g := g3_) (o := .cells #[.string t2, .slice A103 t3.length c103, .int .i64 t4] 31 (0, 0)) (by (with_reducible repeat (first | refine blk_drewN ?_ _ | refine blk_drew ?_ | refine blk_alloc ?_ _)); exact BK3.out) hb); have n5_ := Aside0.mk (blk_below (g := g6_) (o := .cells #[.string t7, .slice A108 t8.length c108, .int .i64 t9] 31 (0, 0)) (by (with_reducible repeat (first | refine blk_drewN ?_ _ | refine blk_drew ?_ | refine blk_alloc ?_ _)); exact BK6.out) hb); have n6_ := Aside0.mk (below_step (by repeat (first | exact HB.out | apply below_alloc | apply pw_below_drewN | apply below_drew1)) hb); have n7_ := Aside0.mk (mineR ho112 (show _ = w9_.heap.size from rfl) (below_size (by repeat (first | exact HB.out | apply below_alloc | apply pw_below_drewN | apply below_drew1)))); clear HO101 HO103 HO106 HO108 BK3 BK6 HB; have HO101 := n0_; have HO103 := n1_; have HO106 := n2_; have HO108 := n3_; have BK3 := n4_; have BK6 := n5_; have HB := n6_; have HO112 := n7_; clear n0_ n1_ n2_ n3_ n4_ n5_ n6_ n7_; have SZ10 := Aside0.mk sz_; clear sz_ hb ho112; obtain ⟨A112, c112, eo112⟩ := Kd.R_slice HO112.out; subst eo112) | ((with_reducible refine gate_callee (f := 11) rfl ?_); refine goesL_ (some 41) rfl rfl Tryd.func11 (by kernel_rfl) rfl #[.slice A106 t6.length c106, .slice A112 t12.length c112] rfl (by (try simp only [List.map_toArray, List.map_cons, List.map_nil]); first | done | rfl | (simp only [List.length_drop, List.length_take]; rfl)) ?_; (with_reducible refine (laws_eqByteS.calls k _ _ t6 _ _ t12 true _ ?side1 ?side2 ?side3 ?side4 A7_.out).mono ?_); (case side1 => repeat (first | exact (Kd.R_reads' HO106.out).2.2 | (with_reducible refine Kd.C_alloc ?_ _) | (with_reducible refine Kd.C_drewN ?_ _) | (with_reducible refine Kd.C_drew ?_))); (case side2 => exact (Kd.R_reads' HO106.out).2.1); (case side3 => repeat (first | exact (Kd.R_reads' HO112.out).2.2 | (with_reducible refine Kd.C_alloc ?_ _) | (with_reducible refine Kd.C_drewN ?_ _) | (with_reducible refine Kd.C_drew ?_))); (case side4 => exact (Kd.R_reads' HO112.out).2.1); rintro e w11_ ⟨rfl, hb⟩; refine ⟨_, rfl, ?_⟩; replace hb := Drawn0.below hb; have sz_ : w10_.heap.size ≤ w11_.heap.size := hb.size; have n0_ := Aside0.mk (Kd.R_below (by (with_reducible repeat (first | apply Kd.R_alloc | apply Kd.R_drewN | apply Kd.R_drew)); exact HO101.out) hb); have n1_ := Aside0.mk (Kd.R_below (by (with_reducible repeat (first | apply Kd.R_alloc | apply Kd.R_drewN | apply Kd.R_drew)); exact HO103.out) hb); have n2_ := Aside0.mk (Kd.R_below (by (with_reducible repeat (first | apply Kd.R_alloc | apply Kd.R_drewN | apply Kd.R_drew)); exact HO106.out) hb); have n3_ := Aside0.mk (Kd.R_below (by (with_reducible repeat (first | apply Kd.R_alloc | apply Kd.R_drewN | apply Kd.R_drew)); exact HO108.out) hb); have n4_ := Aside0.mk (Kd.R_below (by (with_reducible repeat (first | apply Kd.R_alloc | apply Kd.R_drewN | apply Kd.R_drew)); exact HO112.out) hb); have n5_ := Aside0.mk (blk_below (g := g3_) (o := .cells #[.string t2, .slice A103 t3.length c103, .int .i64 t4] 31 (0, 0)) (by (with_reducible repeat (first | refine blk_drewN ?_ _ | refine blk_drew ?_ | refine blk_alloc ?_ _)); exact BK3.out) hb); have n6_ := Aside0.mk (blk_below (g := g6_) (o := .cells #[.string t7, .slice A108 t8.length c108, .int .i64 t9] 31 (0, 0)) (by (with_reducible repeat (first | refine blk_drewN ?_ _ | refine blk_drew ?_ | refine blk_alloc ?_ _)); exact BK6.out) hb); have n7_ := Aside0.mk (below_step (by repeat (first | exact HB.out | apply below_alloc | apply pw_below_drewN | apply below_drew1)) hb); clear HO101 HO103 HO106 HO108 HO112 BK3 BK6 HB; have HO101 := n0_; have HO103 := n1_; have HO106 := n2_; have HO108 := n3_; have HO112 := n4_; have BK3 := n5_; have BK6 := n6_; have HB := n7_; clear n0_ n1_ n2_ n3_ n4_ n5_ n6_ n7_; have SZ11 := Aside0.mk sz_; clear sz_ hb) | ((with_reducible refine gate_callee (f := 14) rfl ?_); refine goesL_ (some 45) rfl rfl Tryd.func14 (by kernel_rfl) rfl #[.slice A106 t6.length c106, .int .i64 1] rfl (by (try simp only [List.map_toArray, List.map_cons, List.map_nil]); first | done | rfl | (simp only [List.length_drop, List.length_take]; rfl)) ?_; (with_reducible refine (laws_markByteS.calls k (Mine w4_.heap.size w5_ (5 :: ((Kd.int .u8)).E)) _ t6 1 t14 t15 w _ ?sideB ?side1 A8_.out).mono ?_); (case sideB => exact (by repeat (first | exact HB.out | apply below_alloc | apply pw_below_drewN | apply below_drew1))); (case side1 => exact (by (with_reducible repeat (first | apply Kd.R_alloc | apply Kd.R_drewN | apply Kd.R_drew)); exact HO106.out)); rintro e w12_ ⟨rfl, hk106, hb, hkp⟩; refine ⟨_, rfl, ?_⟩; have sz_ : w11_.heap.size ≤ w12_.heap.size := hkp.1; have n0_ := Aside0.mk (Kd.R_kept (by (with_reducible repeat (first | apply Kd.R_alloc | apply Kd.R_drewN | apply Kd.R_drew)); exact HO101.out) hkp (fun k_ h1 => (fun h2 => mine_lt h1 h2 (Nat.le_trans (Nat.le_trans SZ2.out SZ3.out) SZ4.out)))); have n1_ := Aside0.mk (Kd.R_kept (by (with_reducible repeat (first | apply Kd.R_alloc | apply Kd.R_drewN | apply Kd.R_drew)); exact HO103.out) hkp (fun k_ h1 => (fun h2 => mine_lt h1 h2 (Nat.le_trans SZ3.out SZ4.out)))); have n2_ := Aside0.mk (Kd.R_kept (by (with_reducible repeat (first | apply Kd.R_alloc | apply Kd.R_drewN | apply Kd.R_drew)); exact HO108.out) hkp (fun k_ h1 => (fun h2 => mine_lt h2 h1 (Nat.le_refl _)))); have n3_ := Aside0.mk (Kd.R_kept (by (with_reducible repeat (first | apply Kd.R_alloc | apply Kd.R_drewN | apply Kd.R_drew)); exact HO112.out) hkp (fun k_ h1 => (fun h2 => mine_lt h2 h1 (Nat.le_trans (Nat.le_trans (Nat.le_trans SZ6.out SZ7.out) SZ8.out) SZ9.out)))); have n4_ := Aside0.mk (blk_kept (g := g3_) (o := .cells #[.string t2, .slice A103 t3.length c103, .int .i64 t4] 31 (0, 0)) (by (with_reducible repeat (first | refine blk_drewN ?_ _ | refine blk_drew ?_ | refine blk_alloc ?_ _)); exact BK3.out) hkp (fun h2 => mine_old h2 GL3.out SZ4.out)); have n5_ := Aside0.mk (blk_kept (g := g6_) (o := .cells #[.string t7, .slice A108 t8.length c108, .int .i64 t9] 31 (0, 0)) (by (with_reducible repeat (first | refine blk_drewN ?_ _ | refine blk_drew ?_ | refine blk_alloc ?_ _)); exact BK6.out) hkp (fun h2 => mine_new h2 GB6.out SZ6.out)); have n6_ := Aside0.mk (hb); clear HO101 HO103 HO108 HO112 BK3 BK6 HB; have HO101 := n0_; have HO103 := n1_; have HO108 := n2_; have HO112 := n3_; have BK3 := n4_; have BK6 := n5_; have HB := n6_; clear n0_ n1_ n2_ n3_ n4_ n5_ n6_; clear HO106; have SZ12 := Aside0.mk sz_; clear sz_ hb hkp hk106; have hc12_6_0 : w12_.cell? ⟨g6_, 0, none⟩ = some (.string t7) := (blk_cell BK6.out 0).trans rfl; have hc12_6_1 : w12_.cell? ⟨g6_, 1, none⟩ = some (.slice A108 t8.length c108) := (blk_cell BK6.out 1).trans rfl; have hc12_6_2 : w12_.cell? ⟨g6_, 2, none⟩ = some (.int .i64 t9) := (blk_cell BK6.out 2).trans rfl; have hc12_3_0 : w12_.cell? ⟨g3_, 0, none⟩ = some (.string t2) := (blk_cell BK3.out 0).trans rfl; have hc12_3_1 : w12_.cell? ⟨g3_, 1, none⟩ = some (.slice A103 t3.length c103) := (blk_cell BK3.out 1).trans rfl; have hc12_3_2 : w12_.cell? ⟨g3_, 2, none⟩ = some (.int .i64 t4) := (blk_cell BK3.out 2).trans rfl) | (go_at_call 12; (with_reducible refine (laws_eqKey.calls k t7 _ _ t8 t9 t2 _ _ t3 t4 true _ ?side1 ?side2 ?side3 ?side4 A9_.out).mono ?_); (case side1 => repeat (first | exact (Kd.R_reads' HO108.out).2.2 | (with_reducible refine Kd.C_alloc ?_ _) | (with_reducible refine Kd.C_drewN ?_ _) | (with_reducible refine Kd.C_drew ?_))); (case side2 => exact (Kd.R_reads' HO108.out).2.1); (case side3 => repeat (first | exact (Kd.R_reads' HO103.out).2.2 | (with_reducible refine Kd.C_alloc ?_ _) | (with_reducible refine Kd.C_drewN ?_ _) | (with_reducible refine Kd.C_drew ?_))); (case side4 => exact (Kd.R_reads' HO103.out).2.1); rintro e w13_ ⟨rfl, hb⟩; have sz_ : w12_.heap.size ≤ w13_.heap.size := hb.size; (try clear hc12_6_0); (try clear hc12_6_1); (try clear hc12_6_2); (try clear hc12_3_0); (try clear hc12_3_1); (try clear hc12_3_2); have n0_ := Aside0.mk (Kd.R_below (by (with_reducible repeat (first | apply Kd.R_alloc | apply Kd.R_drewN | apply Kd.R_drew)); exact HO101.out) hb); have n1_ := Aside0.mk (Kd.R_below (by (with_reducible repeat (first | apply Kd.R_alloc | apply Kd.R_drewN | apply Kd.R_drew)); exact HO103.out) hb); have n2_ := Aside0.mk (Kd.R_below (by (with_reducible repeat (first | apply Kd.R_alloc | apply Kd.R_drewN | apply Kd.R_drew)); exact HO108.out) hb); have n3_ := Aside0.mk (Kd.R_below (by (with_reducible repeat (first | apply Kd.R_alloc | apply Kd.R_drewN | apply Kd.R_drew)); exact HO112.out) hb); have n4_ := Aside0.mk (blk_below (g := g3_) (o := .cells #[.string t2, .slice A103 t3.length c103, .int .i64 t4] 31 (0, 0)) (by (with_reducible repeat (first | refine blk_drewN ?_ _ | refine blk_drew ?_ | refine blk_alloc ?_ _)); exact BK3.out) hb); have n5_ := Aside0.mk (blk_below (g := g6_) (o := .cells #[.string t7, .slice A108 t8.length c108, .int .i64 t9] 31 (0, 0)) (by (with_reducible repeat (first | refine blk_drewN ?_ _ | refine blk_drew ?_ | refine blk_alloc ?_ _)); exact BK6.out) hb); have n6_ := Aside0.mk (below_step (by repeat (first | exact HB.out | apply below_alloc | apply pw_below_drewN | apply below_drew1)) hb); clear HO101 HO103 HO108 HO112 BK3 BK6 HB; have HO101 := n0_; have HO103 := n1_; have HO108 := n2_; have HO112 := n3_; have BK3 := n4_; have BK6 := n5_; have HB := n6_; clear n0_ n1_ n2_ n3_ n4_ n5_ n6_; have SZ13 := Aside0.mk sz_; clear sz_ hb ; have hc13_6_0 : w13_.cell? ⟨g6_, 0, none⟩ = some (.string t7) := (blk_cell BK6.out 0).trans rfl; have hc13_6_1 : w13_.cell? ⟨g6_, 1, none⟩ = some (.slice A108 t8.length c108) := (blk_cell BK6.out 1).trans rfl; have hc13_6_2 : w13_.cell? ⟨g6_, 2, none⟩ = some (.int .i64 t9) := (blk_cell BK6.out 2).trans rfl) | ((with_reducible refine gate_callee (f := 13) rfl ?_); refine goesL_ (some 61) rfl rfl Tryd.func13 (by kernel_rfl) rfl #[.agg #[.string t7, .slice A108 t8.length c108, .int .i64 t9], .int .i64 1] rfl (by (try simp only [List.map_toArray, List.map_cons, List.map_nil]); first | done | rfl | (simp only [List.length_drop, List.length_take]; rfl)) ?_; (with_reducible refine (laws_markKey.calls k t7 (Mine w5_.heap.size w6_ (87 :: (k87).E)) _ t8 t9 1 t17 t18 w _ ?sideB ?side1 A10_.out).mono ?_); (case sideB => exact (by repeat (first | exact HB.out | apply below_alloc | apply pw_below_drewN | apply below_drew1))); (case side1 => exact (by (with_reducible repeat (first | apply Kd.R_alloc | apply Kd.R_drewN | apply Kd.R_drew)); exact HO108.out)); rintro e w14_ ⟨rfl, hk108, hb, hkp⟩; refine ⟨_, rfl, ?_⟩; have sz_ : w13_.heap.size ≤ w14_.heap.size := hkp.1; (try clear hc13_6_0); (try clear hc13_6_1); (try clear hc13_6_2); have n0_ := Aside0.mk (Kd.R_kept (by (with_reducible repeat (first | apply Kd.R_alloc | apply Kd.R_drewN | apply Kd.R_drew)); exact HO101.out) hkp (fun k_ h1 => (fun h2 => mine_lt h1 h2 (Nat.le_trans (Nat.le_trans (Nat.le_trans SZ2.out SZ3.out) SZ4.out) SZ5.out)))); have n1_ := Aside0.mk (Kd.R_kept (by (with_reducible repeat (first | apply Kd.R_alloc | apply Kd.R_drewN | apply Kd.R_drew)); exact HO103.out) hkp (fun k_ h1 => (fun h2 => mine_lt h1 h2 (Nat.le_trans (Nat.le_trans SZ3.out SZ4.out) SZ5.out)))); have n2_ := Aside0.mk (Kd.R_kept (by (with_reducible repeat (first | apply Kd.R_alloc | apply Kd.R_drewN | apply Kd.R_drew)); exact HO112.out) hkp (fun k_ h1 => (fun h2 => mine_lt h2 h1 (Nat.le_trans (Nat.le_trans SZ7.out SZ8.out) SZ9.out)))); have n3_ := Aside0.mk (Kd.R_mono (ok' := fun _ => True) hk108 (fun _ _ => trivial)); have n4_ := Aside0.mk (blk_kept (g := g3_) (o := .cells #[.string t2, .slice A103 t3.length c103, .int .i64 t4] 31 (0, 0)) (by (with_reducible repeat (first | refine blk_drewN ?_ _ | refine blk_drew ?_ | refine blk_alloc ?_ _)); exact BK3.out) hkp (fun h2 => mine_old h2 GL3.out (Nat.le_trans SZ4.out SZ5.out))); have n5_ := Aside0.mk (blk_kept (g := g6_) (o := .cells #[.string t7, .slice A108 t8.length c108, .int .i64 t9] 31 (0, 0)) (by (with_reducible repeat (first | refine blk_drewN ?_ _ | refine blk_drew ?_ | refine blk_alloc ?_ _)); exact BK6.out) hkp (fun h2 => mine_new h2 GB6.out (Nat.le_refl _))); have n6_ := Aside0.mk (hb); clear HO101 HO103 HO112 HO108 BK3 BK6 HB; have HO101 := n0_; have HO103 := n1_; have HO112 := n2_; have HO108 := n3_; have BK3 := n4_; have BK6 := n5_; have HB := n6_; clear n0_ n1_ n2_ n3_ n4_ n5_ n6_; have SZ14 := Aside0.mk sz_; clear sz_ hb hkp hk108; have hl108 : t8.length = t18.length := (Kd.R_reads' HO108.out).1; rw [hl108] at HO108 BK6; clear hl108; have hc14_6_0 : w14_.cell? ⟨g6_, 0, none⟩ = some (.string t7) := (blk_cell BK6.out 0).trans rfl; have hc14_6_1 : w14_.cell? ⟨g6_, 1, none⟩ = some (.slice A108 t18.length c108) := (blk_cell BK6.out 1).trans rfl; have hc14_6_2 : w14_.cell? ⟨g6_, 2, none⟩ = some (.int .i64 t9) := (blk_cell BK6.out 2).trans rfl) | ((with_reducible refine gate_callee (f := 26) rfl ?_); refine goesL_ (some 64) rfl rfl Tryd.func26 (by kernel_rfl) rfl #[.agg #[.string t7, .slice A108 t18.length c108, .int .i64 t9], .int .i64 1] rfl (by (try simp only [List.map_toArray, List.map_cons, List.map_nil]); first | done | rfl | (simp only [List.length_drop, List.length_take]; rfl)) ?_; (with_reducible refine (laws_heldKey.calls k t7 _ _ t18 t9 1 t19 _ ?side1 ?side2 A11_.out).mono ?_); (case side1 => repeat (first | exact (Kd.R_reads' HO108.out).2.2 | (with_reducible refine Kd.C_alloc ?_ _) | (with_reducible refine Kd.C_drewN ?_ _) | (with_reducible refine Kd.C_drew ?_))); (case side2 => exact (Kd.R_reads' HO108.out).2.1); rintro e w15_ ⟨rfl, hb⟩; refine ⟨_, rfl, ?_⟩; have sz_ : w14_.heap.size ≤ w15_.heap.size := hb.size; (try clear hc14_6_0); (try clear hc14_6_1); (try clear hc14_6_2); have n0_ := Aside0.mk (Kd.R_below (by (with_reducible repeat (first | apply Kd.R_alloc | apply Kd.R_drewN | apply Kd.R_drew)); exact HO101.out) hb); have n1_ := Aside0.mk (Kd.R_below (by (with_reducible repeat (first | apply Kd.R_alloc | apply Kd.R_drewN | apply Kd.R_drew)); exact HO103.out) hb); have n2_ := Aside0.mk (Kd.R_below (by (with_reducible repeat (first | apply Kd.R_alloc | apply Kd.R_drewN | apply Kd.R_drew)); exact HO108.out) hb); have n3_ := Aside0.mk (Kd.R_below (by (with_reducible repeat (first | apply Kd.R_alloc | apply Kd.R_drewN | apply Kd.R_drew)); exact HO112.out) hb); have n4_ := Aside0.mk (blk_below (g := g3_) (o := .cells #[.string t2, .slice A103 t3.length c103, .int .i64 t4] 31 (0, 0)) (by (with_reducible repeat (first | refine blk_drewN ?_ _ | refine blk_drew ?_ | refine blk_alloc ?_ _)); exact BK3.out) hb); have n5_ := Aside0.mk (blk_below (g := g6_) (o := .cells #[.string t7, .slice A108 t18.length c108, .int .i64 t9] 31 (0, 0)) (by (with_reducible repeat (first | refine blk_drewN ?_ _ | refine blk_drew ?_ | refine blk_alloc ?_ _)); exact BK6.out) hb); have n6_ := Aside0.mk (below_step (by repeat (first | exact HB.out | apply below_alloc | apply pw_below_drewN | apply below_drew1)) hb); clear HO101 HO103 HO108 HO112 BK3 BK6 HB; have HO101 := n0_; have HO103 := n1_; have HO108 := n2_; have HO112 := n3_; have BK3 := n4_; have BK6 := n5_; have HB := n6_; clear n0_ n1_ n2_ n3_ n4_ n5_ n6_; have SZ15 := Aside0.mk sz_; clear sz_ hb) | ((with_reducible refine gate_callee (f := 24) rfl ?_); refine goesL_ (some 72) rfl rfl Tryd.func24 (by kernel_rfl) rfl #[.slice A0 l0.length c0] rfl (by (try simp only [List.map_toArray, List.map_cons, List.map_nil]); first | done | rfl | (simp only [List.length_drop, List.length_take]; rfl)) ?_; (with_reducible refine (laws_toByteS.calls k _ _ l0 t20 _ ?side1 ?side2 A12_.out).mono ?_); (case side1 => repeat (first | exact (Kd.C_below HR0.out HB.out) | (with_reducible refine Kd.C_alloc ?_ _) | (with_reducible refine Kd.C_drewN ?_ _) | (with_reducible refine Kd.C_drew ?_))); (case side2 => exact HC0.out); rintro e w16_ ⟨v120, rfl, ho120, hb⟩; refine ⟨_, rfl, ?_⟩; have sz_ : w15_.heap.size ≤ w16_.heap.size := hb.size; have n0_ := Aside0.mk (Kd.R_below (by (with_reducible repeat (first | apply Kd.R_alloc | apply Kd.R_drewN | apply Kd.R_drew)); exact HO101.out) hb); have n1_ := Aside0.mk (Kd.R_below (by (with_reducible repeat (first | apply Kd.R_alloc | apply Kd.R_drewN | apply Kd.R_drew)); exact HO103.out) hb); have n2_ := Aside0.mk (Kd.R_below (by (with_reducible repeat (first | apply Kd.R_alloc | apply Kd.R_drewN | apply Kd.R_drew)); exact HO108.out) hb); have n3_ := Aside0.mk (Kd.R_below (by (with_reducible repeat (first | apply Kd.R_alloc | apply Kd.R_drewN | apply Kd.R_drew)); exact HO112.out) hb); have n4_ := Aside0.mk (blk_below (g := g3_) (o := .cells #[.string t2, .slice A103 t3.length c103, .int .i64 t4] 31 (0, 0)) (by (with_reducible repeat (first | refine blk_drewN ?_ _ | refine blk_drew ?_ | refine blk_alloc ?_ _)); exact BK3.out) hb); have n5_ := Aside0.mk (blk_below (g := g6_) (o := .cells #[.string t7, .slice A108 t18.length c108, .int .i64 t9] 31 (0, 0)) (by (with_reducible repeat (first | refine blk_drewN ?_ _ | refine blk_drew ?_ | refine blk_alloc ?_ _)); exact BK6.out) hb); have n6_ := Aside0.mk (below_step (by repeat (first | exact HB.out | apply below_alloc | apply pw_below_drewN | apply below_drew1)) hb); have n7_ := Aside0.mk (mineR ho120 (show _ = w15_.heap.size from rfl) (below_size (by repeat (first | exact HB.out | apply below_alloc | apply pw_below_drewN | apply below_drew1)))); clear HO101 HO103 HO108 HO112 BK3 BK6 HB; have HO101 := n0_; have HO103 := n1_; have HO108 := n2_; have HO112 := n3_; have BK3 := n4_; have BK6 := n5_; have HB := n6_; have HO120 := n7_; clear n0_ n1_ n2_ n3_ n4_ n5_ n6_ n7_; have SZ16 := Aside0.mk sz_; clear sz_ hb ho120; obtain ⟨A120, c120, eo120⟩ := Kd.R_slice HO120.out; subst eo120) | ((with_reducible refine gate_callee (f := 25) rfl ?_); refine goesL_ (some 73) rfl rfl Tryd.func25 (by kernel_rfl) rfl #[.slice A120 t20.length c120] rfl (by (try simp only [List.map_toArray, List.map_cons, List.map_nil]); first | done | rfl | (simp only [List.length_drop, List.length_take]; rfl)) ?_; (with_reducible refine (impl_ReadKey.calls k _ _ t20 t21 t22 t23 t24 _ ?side1 ?side2 A13_.out).mono ?_); (case side1 => repeat (first | exact (Kd.R_reads' HO120.out).2.2 | (with_reducible refine Kd.C_alloc ?_ _) | (with_reducible refine Kd.C_drewN ?_ _) | (with_reducible refine Kd.C_drew ?_))); (case side2 => exact (Kd.R_reads' HO120.out).2.1); rintro e w17_ ⟨v122, rfl, ho122, hb⟩; refine ⟨_, rfl, ?_⟩; have sz_ : w16_.heap.size ≤ w17_.heap.size := hb.size; have n0_ := Aside0.mk (Kd.R_below (by (with_reducible repeat (first | apply Kd.R_alloc | apply Kd.R_drewN | apply Kd.R_drew)); exact HO101.out) hb); have n1_ := Aside0.mk (Kd.R_below (by (with_reducible repeat (first | apply Kd.R_alloc | apply Kd.R_drewN | apply Kd.R_drew)); exact HO103.out) hb); have n2_ := Aside0.mk (Kd.R_below (by (with_reducible repeat (first | apply Kd.R_alloc | apply Kd.R_drewN | apply Kd.R_drew)); exact HO108.out) hb); have n3_ := Aside0.mk (Kd.R_below (by (with_reducible repeat (first | apply Kd.R_alloc | apply Kd.R_drewN | apply Kd.R_drew)); exact HO112.out) hb); have n4_ := Aside0.mk (Kd.R_below (by (with_reducible repeat (first | apply Kd.R_alloc | apply Kd.R_drewN | apply Kd.R_drew)); exact HO120.out) hb); have n5_ := Aside0.mk (blk_below (g := g3_) (o := .cells #[.string t2, .slice A103 t3.length c103, .int .i64 t4] 31 (0, 0)) (by (with_reducible repeat (first | refine blk_drewN ?_ _ | refine blk_drew ?_ | refine blk_alloc ?_ _)); exact BK3.out) hb); have n6_ := Aside0.mk (blk_below (g := g6_) (o := .cells #[.string t7, .slice A108 t18.length c108, .int .i64 t9] 31 (0, 0)) (by (with_reducible repeat (first | refine blk_drewN ?_ _ | refine blk_drew ?_ | refine blk_alloc ?_ _)); exact BK6.out) hb); have n7_ := Aside0.mk (below_step (by repeat (first | exact HB.out | apply below_alloc | apply pw_below_drewN | apply below_drew1)) hb); have n8_ := Aside0.mk (mineR ho122 (show _ = w16_.heap.size from rfl) (below_size (by repeat (first | exact HB.out | apply below_alloc | apply pw_below_drewN | apply below_drew1)))); clear HO101 HO103 HO108 HO112 HO120 BK3 BK6 HB; have HO101 := n0_; have HO103 := n1_; have HO108 := n2_; have HO112 := n3_; have HO120 := n4_; have BK3 := n5_; have BK6 := n6_; have HB := n7_; have HO122 := n8_; clear n0_ n1_ n2_ n3_ n4_ n5_ n6_ n7_ n8_; have SZ17 := Aside0.mk sz_; clear sz_ hb ho122; obtain ⟨A122, c122, eo122⟩ := Kd.R_slice HO122.out; subst eo122) | ((with_reducible refine gate_dst (N := 11) rfl ?_); refine box_event ?hg (N := 11) ?hd (cs := #[.string (⟨#[]⟩), .slice none 0 0, .int .i64 0]) (t := 31) ?hr ?_; (case hd => rfl); (case hg => rfl); (case hr => first | (go_simp; done) | (go_simp; rfl)); intro g11_ hg w18_ hbox hb; have n0_ := Aside0.mk (Kd.R_below (by (with_reducible repeat (first | apply Kd.R_alloc | apply Kd.R_drewN | apply Kd.R_drew)); exact HO101.out) hb); have n1_ := Aside0.mk (Kd.R_below (by (with_reducible repeat (first | apply Kd.R_alloc | apply Kd.R_drewN | apply Kd.R_drew)); exact HO103.out) hb); have n2_ := Aside0.mk (Kd.R_below (by (with_reducible repeat (first | apply Kd.R_alloc | apply Kd.R_drewN | apply Kd.R_drew)); exact HO108.out) hb); have n3_ := Aside0.mk (Kd.R_below (by (with_reducible repeat (first | apply Kd.R_alloc | apply Kd.R_drewN | apply Kd.R_drew)); exact HO112.out) hb); have n4_ := Aside0.mk (Kd.R_below (by (with_reducible repeat (first | apply Kd.R_alloc | apply Kd.R_drewN | apply Kd.R_drew)); exact HO120.out) hb); have n5_ := Aside0.mk (Kd.R_below (by (with_reducible repeat (first | apply Kd.R_alloc | apply Kd.R_drewN | apply Kd.R_drew)); exact HO122.out) hb); have n6_ := Aside0.mk (blk_below (g := g3_) (o := .cells #[.string t2, .slice A103 t3.length c103, .int .i64 t4] 31 (0, 0)) (by (with_reducible repeat (first | refine blk_drewN ?_ _ | refine blk_drew ?_ | refine blk_alloc ?_ _)); exact BK3.out) hb); have n7_ := Aside0.mk (blk_below (g := g6_) (o := .cells #[.string t7, .slice A108 t18.length c108, .int .i64 t9] 31 (0, 0)) (by (with_reducible repeat (first | refine blk_drewN ?_ _ | refine blk_drew ?_ | refine blk_alloc ?_ _)); exact BK6.out) hb); have n8_ := Aside0.mk (below_step (by repeat (first | exact HB.out | apply below_alloc | apply pw_below_drewN | apply below_drew1)) hb); clear HO101 HO103 HO108 HO112 HO120 HO122 BK3 BK6 HB; have HO101 := n0_; have HO103 := n1_; have HO108 := n2_; have HO112 := n3_; have HO120 := n4_; have HO122 := n5_; have BK3 := n6_; have BK6 := n7_; have HB := n8_; clear n0_ n1_ n2_ n3_ n4_ n5_ n6_ n7_ n8_; have SZ18 := Aside0.mk (show w17_.heap.size ≤ w18_.heap.size from hb.size); have BK11 := Aside0.mk hbox; have GB11 := Aside0.mk (show g11_ = w17_.heap.size from hg); have GL11 := Aside0.mk (blk_lt hbox); have GE11 := Aside0.mk (show w.heap.size ≤ g11_ from (by rw [GB11.out]; exact (Nat.le_trans (Nat.le_trans (Nat.le_trans (Nat.le_trans (Nat.le_trans (Nat.le_trans (Nat.le_trans (Nat.le_trans (Nat.le_trans (Nat.le_trans (Nat.le_trans (Nat.le_trans (Nat.le_trans (Nat.le_trans (Nat.le_trans (Nat.le_trans SZ1.out SZ2.out) SZ3.out) SZ4.out) SZ5.out) SZ6.out) SZ7.out) SZ8.out) SZ9.out) SZ10.out) SZ11.out) SZ12.out) SZ13.out) SZ14.out) SZ15.out) SZ16.out) SZ17.out))); clear hb hbox hg; have hc18_11_0 : w18_.cell? ⟨g11_, 0, none⟩ = some (.string (⟨#[]⟩)) := (blk_cell BK11.out 0).trans rfl; have hc18_11_1 : w18_.cell? ⟨g11_, 1, none⟩ = some (.slice none 0 0) := (blk_cell BK11.out 1).trans rfl; have hc18_11_2 : w18_.cell? ⟨g11_, 2, none⟩ = some (.int .i64 0) := (blk_cell BK11.out 2).trans rfl; have hf18_11_0 := blk_frozen BK11.out 0; have hf18_11_1 := blk_frozen BK11.out 1; have hf18_11_2 := blk_frozen BK11.out 2) | ((with_reducible refine gate_store (t := 31) (p := 11) rfl ?_); refine store_event (t := 31) (p := 11) (v := ?vo19) (w1 := setAll w18_ g11_ 0 [.string t21, .slice A122 t22.length c122, .int .i64 t23]) ?hg ?ho ?hn ?hr ?_; (case ho => rfl); (case hg => rfl); (case hn => rfl); (case hr => first | (go_simp; done) | (go_simp; rfl)); intro w19_ hw; have on_ : On g11_ w18_ w19_ := (by rw [hw]; exact setAll_on _ _ _ _); have bk_ : w19_.heap[g11_]? = some (.cells #[.string t21, .slice A122 t22.length c122, .int .i64 t23] 31 (0, 0)) := (by rw [hw]; exact setAll_blk _ BK11.out rfl); clear hw; (try clear hc18_11_0); (try clear hc18_11_1); (try clear hc18_11_2); (try clear hf18_11_0); (try clear hf18_11_1); (try clear hf18_11_2); have n0_ := Aside0.mk (on_.Rt (by (with_reducible repeat (first | apply Kd.R_alloc | apply Kd.R_drewN | apply Kd.R_drew)); exact HO101.out) BK11.out (by decide)); have n1_ := Aside0.mk (on_.Rt (by (with_reducible repeat (first | apply Kd.R_alloc | apply Kd.R_drewN | apply Kd.R_drew)); exact HO103.out) BK11.out (by decide)); have n2_ := Aside0.mk (on_.Rt (by (with_reducible repeat (first | apply Kd.R_alloc | apply Kd.R_drewN | apply Kd.R_drew)); exact HO108.out) BK11.out (by decide)); have n3_ := Aside0.mk (on_.Rt (by (with_reducible repeat (first | apply Kd.R_alloc | apply Kd.R_drewN | apply Kd.R_drew)); exact HO112.out) BK11.out (by decide)); have n4_ := Aside0.mk (on_.Rt (by (with_reducible repeat (first | apply Kd.R_alloc | apply Kd.R_drewN | apply Kd.R_drew)); exact HO120.out) BK11.out (by decide)); have n5_ := Aside0.mk (on_.Rt (by (with_reducible repeat (first | apply Kd.R_alloc | apply Kd.R_drewN | apply Kd.R_drew)); exact HO122.out) BK11.out (by decide)); have n6_ := Aside0.mk (on_.blk BK3.out (by rw [GB11.out]; exact Nat.ne_of_lt (Nat.lt_of_lt_of_le GL3.out (Nat.le_trans (Nat.le_trans (Nat.le_trans (Nat.le_trans (Nat.le_trans (Nat.le_trans (Nat.le_trans (Nat.le_trans (Nat.le_trans (Nat.le_trans (Nat.le_trans (Nat.le_trans (Nat.le_trans SZ4.out SZ5.out) SZ6.out) SZ7.out) SZ8.out) SZ9.out) SZ10.out) SZ11.out) SZ12.out) SZ13.out) SZ14.out) SZ15.out) SZ16.out) SZ17.out)))); have n7_ := Aside0.mk (on_.blk BK6.out (by rw [GB11.out]; exact Nat.ne_of_lt (Nat.lt_of_lt_of_le GL6.out (Nat.le_trans (Nat.le_trans (Nat.le_trans (Nat.le_trans (Nat.le_trans (Nat.le_trans (Nat.le_trans (Nat.le_trans (Nat.le_trans SZ8.out SZ9.out) SZ10.out) SZ11.out) SZ12.out) SZ13.out) SZ14.out) SZ15.out) SZ16.out) SZ17.out)))); have n8_ := Aside0.mk (on_.below HB.out GE11.out); have n9_ := Aside0.mk (bk_); clear HO101 HO103 HO108 HO112 HO120 HO122 BK3 BK6 HB; have HO101 := n0_; have HO103 := n1_; have HO108 := n2_; have HO112 := n3_; have HO120 := n4_; have HO122 := n5_; have BK3 := n6_; have BK6 := n7_; have HB := n8_; have BK11 := n9_; clear n0_ n1_ n2_ n3_ n4_ n5_ n6_ n7_ n8_ n9_; have SZ19 := Aside0.mk (show w18_.heap.size ≤ w19_.heap.size from Nat.le_of_eq on_.size.symm); clear on_ bk_; have hc19_11_0 : w19_.cell? ⟨g11_, 0, none⟩ = some (.string t21) := (blk_cell BK11.out 0).trans rfl; have hc19_11_1 : w19_.cell? ⟨g11_, 1, none⟩ = some (.slice A122 t22.length c122) := (blk_cell BK11.out 1).trans rfl; have hc19_11_2 : w19_.cell? ⟨g11_, 2, none⟩ = some (.int .i64 t23) := (blk_cell BK11.out 2).trans rfl; have hc19_3_0 : w19_.cell? ⟨g3_, 0, none⟩ = some (.string t2) := (blk_cell BK3.out 0).trans rfl; have hc19_3_1 : w19_.cell? ⟨g3_, 1, none⟩ = some (.slice A103 t3.length c103) := (blk_cell BK3.out 1).trans rfl; have hc19_3_2 : w19_.cell? ⟨g3_, 2, none⟩ = some (.int .i64 t4) := (blk_cell BK3.out 2).trans rfl) | ((with_reducible refine gate_callee (f := 12) rfl ?_); refine goesL_ (some 78) rfl rfl Tryd.func12 (by kernel_rfl) rfl #[.agg #[.string t21, .slice A122 t22.length c122, .int .i64 t23], .agg #[.string t2, .slice A103 t3.length c103, .int .i64 t4]] rfl (by (try simp only [List.map_toArray, List.map_cons, List.map_nil]); first | done | rfl | (simp only [List.length_drop, List.length_take]; rfl)) ?_; (with_reducible refine (laws_eqKey.calls k t21 _ _ t22 t23 t2 _ _ t3 t4 true _ ?side1 ?side2 ?side3 ?side4 A14_.out).mono ?_); (case side1 => repeat (first | exact (Kd.R_reads' HO122.out).2.2 | (with_reducible refine Kd.C_alloc ?_ _) | (with_reducible refine Kd.C_drewN ?_ _) | (with_reducible refine Kd.C_drew ?_))); (case side2 => exact (Kd.R_reads' HO122.out).2.1); (case side3 => repeat (first | exact (Kd.R_reads' HO103.out).2.2 | (with_reducible refine Kd.C_alloc ?_ _) | (with_reducible refine Kd.C_drewN ?_ _) | (with_reducible refine Kd.C_drew ?_))); (case side4 => exact (Kd.R_reads' HO103.out).2.1); rintro e w20_ ⟨rfl, hb⟩; refine ⟨_, rfl, ?_⟩; have sz_ : w19_.heap.size ≤ w20_.heap.size := hb.size; (try clear hc19_11_0); (try clear hc19_11_1); (try clear hc19_11_2); (try clear hc19_3_0); (try clear hc19_3_1); (try clear hc19_3_2); have n0_ := Aside0.mk (Kd.R_below (by (with_reducible repeat (first | apply Kd.R_alloc | apply Kd.R_drewN | apply Kd.R_drew)); exact HO101.out) hb); have n1_ := Aside0.mk (Kd.R_below (by (with_reducible repeat (first | apply Kd.R_alloc | apply Kd.R_drewN | apply Kd.R_drew)); exact HO103.out) hb); have n2_ := Aside0.mk (Kd.R_below (by (with_reducible repeat (first | apply Kd.R_alloc | apply Kd.R_drewN | apply Kd.R_drew)); exact HO108.out) hb); have n3_ := Aside0.mk (Kd.R_below (by (with_reducible repeat (first | apply Kd.R_alloc | apply Kd.R_drewN | apply Kd.R_drew)); exact HO112.out) hb); have n4_ := Aside0.mk (Kd.R_below (by (with_reducible repeat (first | apply Kd.R_alloc | apply Kd.R_drewN | apply Kd.R_drew)); exact HO120.out) hb); have n5_ := Aside0.mk (Kd.R_below (by (with_reducible repeat (first | apply Kd.R_alloc | apply Kd.R_drewN | apply Kd.R_drew)); exact HO122.out) hb); have n6_ := Aside0.mk (blk_below (g := g3_) (o := .cells #[.string t2, .slice A103 t3.length c103, .int .i64 t4] 31 (0, 0)) (by (with_reducible repeat (first | refine blk_drewN ?_ _ | refine blk_drew ?_ | refine blk_alloc ?_ _)); exact BK3.out) hb); have n7_ := Aside0.mk (blk_below (g := g6_) (o := .cells #[.string t7, .slice A108 t18.length c108, .int .i64 t9] 31 (0, 0)) (by (with_reducible repeat (first | refine blk_drewN ?_ _ | refine blk_drew ?_ | refine blk_alloc ?_ _)); exact BK6.out) hb); have n8_ := Aside0.mk (blk_below (g := g11_) (o := .cells #[.string t21, .slice A122 t22.length c122, .int .i64 t23] 31 (0, 0)) (by (with_reducible repeat (first | refine blk_drewN ?_ _ | refine blk_drew ?_ | refine blk_alloc ?_ _)); exact BK11.out) hb); have n9_ := Aside0.mk (below_step (by repeat (first | exact HB.out | apply below_alloc | apply pw_below_drewN | apply below_drew1)) hb); clear HO101 HO103 HO108 HO112 HO120 HO122 BK3 BK6 BK11 HB; have HO101 := n0_; have HO103 := n1_; have HO108 := n2_; have HO112 := n3_; have HO120 := n4_; have HO122 := n5_; have BK3 := n6_; have BK6 := n7_; have BK11 := n8_; have HB := n9_; clear n0_ n1_ n2_ n3_ n4_ n5_ n6_ n7_ n8_ n9_; have SZ20 := Aside0.mk sz_; clear sz_ hb ; have hc20_6_0 : w20_.cell? ⟨g6_, 0, none⟩ = some (.string t7) := (blk_cell BK6.out 0).trans rfl; have hc20_6_1 : w20_.cell? ⟨g6_, 1, none⟩ = some (.slice A108 t18.length c108) := (blk_cell BK6.out 1).trans rfl; have hc20_6_2 : w20_.cell? ⟨g6_, 2, none⟩ = some (.int .i64 t9) := (blk_cell BK6.out 2).trans rfl) | ((with_reducible refine gate_callee (f := 26) rfl ?_); refine goesL_ (some 87) rfl rfl Tryd.func26 (by kernel_rfl) rfl #[.agg #[.string t7, .slice A108 t18.length c108, .int .i64 t9], .int .i64 1] rfl (by (try simp only [List.map_toArray, List.map_cons, List.map_nil]); first | done | rfl | (simp only [List.length_drop, List.length_take]; rfl)) ?_; (with_reducible refine (laws_heldKey.calls k t7 _ _ t18 t9 1 t26 _ ?side1 ?side2 A15_.out).mono ?_); (case side1 => repeat (first | exact (Kd.R_reads' HO108.out).2.2 | (with_reducible refine Kd.C_alloc ?_ _) | (with_reducible refine Kd.C_drewN ?_ _) | (with_reducible refine Kd.C_drew ?_))); (case side2 => exact (Kd.R_reads' HO108.out).2.1); rintro e w21_ ⟨rfl, hb⟩; refine ⟨_, rfl, ?_⟩; have sz_ : w20_.heap.size ≤ w21_.heap.size := hb.size; (try clear hc20_6_0); (try clear hc20_6_1); (try clear hc20_6_2); have n0_ := Aside0.mk (Kd.R_below (by (with_reducible repeat (first | apply Kd.R_alloc | apply Kd.R_drewN | apply Kd.R_drew)); exact HO101.out) hb); have n1_ := Aside0.mk (Kd.R_below (by (with_reducible repeat (first | apply Kd.R_alloc | apply Kd.R_drewN | apply Kd.R_drew)); exact HO103.out) hb); have n2_ := Aside0.mk (Kd.R_below (by (with_reducible repeat (first | apply Kd.R_alloc | apply Kd.R_drewN | apply Kd.R_drew)); exact HO108.out) hb); have n3_ := Aside0.mk (Kd.R_below (by (with_reducible repeat (first | apply Kd.R_alloc | apply Kd.R_drewN | apply Kd.R_drew)); exact HO112.out) hb); have n4_ := Aside0.mk (Kd.R_below (by (with_reducible repeat (first | apply Kd.R_alloc | apply Kd.R_drewN | apply Kd.R_drew)); exact HO120.out) hb); have n5_ := Aside0.mk (Kd.R_below (by (with_reducible repeat (first | apply Kd.R_alloc | apply Kd.R_drewN | apply Kd.R_drew)); exact HO122.out) hb); have n6_ := Aside0.mk (blk_below (g := g3_) (o := .cells #[.string t2, .slice A103 t3.length c103, .int .i64 t4] 31 (0, 0)) (by (with_reducible repeat (first | refine blk_drewN ?_ _ | refine blk_drew ?_ | refine blk_alloc ?_ _)); exact BK3.out) hb); have n7_ := Aside0.mk (blk_below (g := g6_) (o := .cells #[.string t7, .slice A108 t18.length c108, .int .i64 t9] 31 (0, 0)) (by (with_reducible repeat (first | refine blk_drewN ?_ _ | refine blk_drew ?_ | refine blk_alloc ?_ _)); exact BK6.out) hb); have n8_ := Aside0.mk (blk_below (g := g11_) (o := .cells #[.string t21, .slice A122 t22.length c122, .int .i64 t23] 31 (0, 0)) (by (with_reducible repeat (first | refine blk_drewN ?_ _ | refine blk_drew ?_ | refine blk_alloc ?_ _)); exact BK11.out) hb); have n9_ := Aside0.mk (below_step (by repeat (first | exact HB.out | apply below_alloc | apply pw_below_drewN | apply below_drew1)) hb); clear HO101 HO103 HO108 HO112 HO120 HO122 BK3 BK6 BK11 HB; have HO101 := n0_; have HO103 := n1_; have HO108 := n2_; have HO112 := n3_; have HO120 := n4_; have HO122 := n5_; have BK3 := n6_; have BK6 := n7_; have BK11 := n8_; have HB := n9_; clear n0_ n1_ n2_ n3_ n4_ n5_ n6_ n7_ n8_ n9_; have SZ21 := Aside0.mk sz_; clear sz_ hb))
    go_ret
    exact ⟨by first | rfl | (simp; done), (by repeat (first | exact HB.out | apply below_alloc | apply pw_below_drewN | apply below_drew1))⟩
  · rw [if_neg hcond] at h
    cases h

/-- THE ONE PURE STATEMENT of laws_FnExactReadKey. -/
def laws_FnExactReadKey.Pure : Prop := ∀ (l0 : List Int), (l0.length ≤ maxLen ∧ ∀ x ∈ l0, (Lit.int .u8 x).wf = true) → ∃ k, laws_FnExactReadKey.f k l0 = some true

end Go.Proofs.YtodblpadklheaaaDoor.PFnExactReadKey
