-- Written for this claim by a program of this session: a scratch copy of the kit's print with patches of this session.
import Derived.Test.YtadkabbeghpgcaaPFnExactReadEditx0
import Derived.Test.YtadkabbeghpgcaaPFnExactReadEditx4
import Derived.Test.YtadkabbeghpgcaaPFnExactReadEditx5
import Derived.Test.YtadkabbeghpgcaaPFnExactReadEditx6
namespace Go.Proofs.Ytadkabbeghpgcaa.PFnExactReadEdit
open Go.RowKit Go.Proofs.YtadkabbeghpgcaaW.PrintWords Go.Proofs.YtadkabbeghpgcaaW.PrintLast Go.Proofs.YtadkabbeghpgcaaW.PrintMore
attribute [local go_sem] max2_int min2_int max_two min_two max_three min_three max_four min_four hw_string_geq hw_string_gtr hw_string_leq   -- for this text's walks alone
set_option linter.unusedVariables false
set_option linter.unusedSimpArgs false

/-! ### impl_ReadEdit: function 9, by hand -/
def impl_ReadEdit.num (k : Nat) (l : List Int) (at_ : Int) (bad : Bool) : Option (Int × Int × Bool) := (impl_ReadVar.f k l at_).bind fun p => some (if bad = true then (0, at_, true) else if p.2.2 = false then (0, at_, true) else if (decide (p.1 > 1000000000)) = true then (0, at_, true) else (wrap64 p.1, p.2.1, false))
/-- V is behind W: new blocks, and the reader's block, which reads so -/
structure impl_ReadEdit.Rs (gr : Nat) (W : World) (A : Option Addr) (n c : Nat) (at_ : Int) (bad : Bool) (V : World) : Prop where
  step : Gr gr W V
  blk : V.heap[gr]? = some (.cells #[.slice A n c, .int .i64 at_, .bool bad] 80 (0, 0))
section
variable {gr : Nat} {W V U : World} {A : Option Addr} {n c : Nat} {at_ : Int} {bad : Bool}
theorem impl_ReadEdit.Rs.drew (h : impl_ReadEdit.Rs gr W A n c at_ bad V) : impl_ReadEdit.Rs gr W A n c at_ bad V.drew := ⟨h.step.drew, h.blk⟩
theorem impl_ReadEdit.Rs.drewN (h : impl_ReadEdit.Rs gr W A n c at_ bad V) (q : Nat) : impl_ReadEdit.Rs gr W A n c at_ bad (V.drewN q) := ⟨h.step.drewN q, h.blk⟩
theorem impl_ReadEdit.Rs.below (h : impl_ReadEdit.Rs gr W A n c at_ bad V) (hb : Below V.heap.size V U) : impl_ReadEdit.Rs gr W A n c at_ bad U := ⟨h.step.step hb, blk_below h.blk hb⟩
theorem impl_ReadEdit.Rs.set1 (h : impl_ReadEdit.Rs gr W A n c at_ bad V) (x : Int) : impl_ReadEdit.Rs gr W A n c x bad (V.setCell ⟨gr, 1, none⟩ (.int .i64 x)) := ⟨h.step.set 1 _, blk_put h.blk 1 _ rfl⟩
theorem impl_ReadEdit.Rs.set2 (h : impl_ReadEdit.Rs gr W A n c at_ bad V) (x : Bool) : impl_ReadEdit.Rs gr W A n c at_ x (V.setCell ⟨gr, 2, none⟩ (.bool x)) := ⟨h.step.set 2 _, blk_put h.blk 2 _ rfl⟩
end
set_option maxHeartbeats 8000000 in
set_option maxRecDepth 100000 in
/-- a number is read -/
theorem impl_ReadEdit.num_calls (k : Nat) (l : List Int) (at_ : Int) (bad : Bool) (n at2 : Int) (bad2 : Bool) (A : Option Addr) (c gr : Nat) (w : World) (hr : Kd.C (Kd.int .u8) w A l.length l) (hc : l.length ≤ c) (hb : w.heap[gr]? = some (.cells #[.slice A l.length c, .int .i64 at_, .bool bad] 80 (0, 0))) (h : impl_ReadEdit.num k l at_ bad = some (n, at2, bad2)) :
    Calls Try.prog 39 #[.pointer (some ⟨gr, 0, none⟩)] w fun e w' => e = .returned (.int .i64 n) ∧ impl_ReadEdit.Rs gr w A l.length c at2 bad2 w' := by
  have hu := Try.underlying80
  unfold impl_ReadEdit.num at h
  obtain ⟨⟨x, nx, ok⟩, h1, h⟩ := Option.bind_eq_some_iff.mp h
  dsimp only at h
  have HV := Aside0.mk h1
  have HR := Aside0.mk hr
  have HC := Aside0.mk hc
  have R0 := Aside0.mk (⟨Gr.refl gr w, hb⟩ : impl_ReadEdit.Rs gr w A l.length c at_ bad w)
  have H := Aside0.mk (Option.some.inj h)
  clear h1 hr hc hb h
  go_enter Try.func39, Try.ntmps39
  go_wp2
  have R1 := Aside0.mk (R0.out.drew)
  have HR1 := Aside0.mk (Kd.C_drew HR.out)
  refine start_ (n := 16) (S := fun w' => w'.cell? ⟨gr, 0, none⟩ = some (.slice A l.length c) ∧ w'.cell? ⟨gr, 1, none⟩ = some (.int .i64 at_)) (ds := []) #[false, false, false, false, false, false, false, false, false, false, false, false, false, false, false, false] (by kernel_rfl) rfl rfl ⟨(blk_cell R1.out.blk 0).trans rfl, (blk_cell R1.out.blk 1).trans rfl⟩ (fun hHeld => ?_)
  clear R0 HR
  generalize hw1 : w.drew = w1 at R1 HR1 hHeld ⊢
  clear hw1
  refine pure_ (i := 0) (N := some 7) (v := ?_) (a' := ?_) #[true, false, false, false, false, false, false, false, false, false, false, false, false, false, false, false] rfl rfl (by kernel_rfl) (fun _ _ _ h => h) (Or.inl ⟨by rfl, ?_⟩) ?_ ?_
  rotate_left
  · intro w'
    go_simp
    with_reducible rfl
  rotate_left
  · simp only [Act.put, List.setIfInBounds_toArray, List.set_cons_zero, List.set_cons_succ, i64_w, i32_w]
    rfl
  refine pure_ (i := 1) (N := some 8) (v := ?_) (a' := ?_) #[true, true, false, false, false, false, false, false, false, false, false, false, false, false, false, false] rfl rfl (by kernel_rfl) (fun _ _ _ h => h) (Or.inl ⟨by rfl, ?_⟩) ?_ ?_
  rotate_left
  · intro w'
    go_simp
    with_reducible rfl
  rotate_left
  · simp only [Act.put, List.setIfInBounds_toArray, List.set_cons_zero, List.set_cons_succ, i64_w, i32_w]
    rfl
  refine pure_ (i := 2) (N := some 9) (v := ?_) (a' := ?_) #[true, true, true, false, false, false, false, false, false, false, false, false, false, false, false, false] rfl rfl (by kernel_rfl) (fun _ _ _ h => h) (Or.inl ⟨by rfl, ?_⟩) ?_ ?_
  rotate_left
  · intro w'
    go_simp
    with_reducible rfl
  rotate_left
  · simp only [Act.put, List.setIfInBounds_toArray, List.set_cons_zero, List.set_cons_succ, i64_w, i32_w]
    rfl
  refine take_ (i := 3) (N := some 10) (v := ?_) (a' := ?_) #[true, true, true, true, false, false, false, false, false, false, false, false, false, false, false, false] rfl rfl (by kernel_rfl) (fun _ _ _ h => h) (Or.inl ⟨by rfl, ?_⟩) hHeld ?_ ?_
  rotate_left
  · rintro w' ⟨s0, s1⟩
    go_simp
    with_reducible rfl
  rotate_left
  · simp only [Act.put, List.setIfInBounds_toArray, List.set_cons_zero, List.set_cons_succ, i64_w, i32_w]
    rfl
  refine pure_ (i := 4) (N := some 11) (v := ?_) (a' := ?_) #[true, true, true, true, true, false, false, false, false, false, false, false, false, false, false, false] rfl rfl (by kernel_rfl) (fun _ _ _ h => h) (Or.inl ⟨by rfl, ?_⟩) ?_ ?_
  rotate_left
  · intro w'
    go_simp
    with_reducible rfl
  rotate_left
  · simp only [Act.put, List.setIfInBounds_toArray, List.set_cons_zero, List.set_cons_succ, i64_w, i32_w]
    rfl
  refine pure_ (i := 5) (N := some 12) (v := ?_) (a' := ?_) #[true, true, true, true, true, true, false, false, false, false, false, false, false, false, false, false] rfl rfl (by kernel_rfl) (fun _ _ _ h => h) (Or.inl ⟨by rfl, ?_⟩) ?_ ?_
  rotate_left
  · intro w'
    go_simp
    with_reducible rfl
  rotate_left
  · simp only [Act.put, List.setIfInBounds_toArray, List.set_cons_zero, List.set_cons_succ, i64_w, i32_w]
    rfl
  refine pure_ (i := 6) (N := some 13) (v := ?_) (a' := ?_) #[true, true, true, true, true, true, true, false, false, false, false, false, false, false, false, false] rfl rfl (by kernel_rfl) (fun _ _ _ h => h) (Or.inl ⟨by rfl, ?_⟩) ?_ ?_
  rotate_left
  · intro w'
    go_simp
    with_reducible rfl
  rotate_left
  · simp only [Act.put, List.setIfInBounds_toArray, List.set_cons_zero, List.set_cons_succ, i64_w, i32_w]
    rfl
  refine take_ (i := 7) (N := some 14) (v := ?_) (a' := ?_) #[true, true, true, true, true, true, true, true, false, false, false, false, false, false, false, false] rfl rfl (by kernel_rfl) (fun _ _ _ h => h) (Or.inl ⟨by rfl, ?_⟩) hHeld ?_ ?_
  rotate_left
  · rintro w' ⟨s0, s1⟩
    go_simp
    with_reducible rfl
  rotate_left
  · simp only [Act.put, List.setIfInBounds_toArray, List.set_cons_zero, List.set_cons_succ, i64_w, i32_w]
    rfl
  refine one_ (i := 8) (N := some 15) #[true, true, true, true, true, true, true, true, true, false, false, false, false, false, false, false] rfl rfl (by kernel_rfl) (by decide) (fun K hK => ?_)
  refine goes_ Try.func71 (by kernel_rfl) rfl #[.slice A l.length c, .int .i64 at_] (by rfl) rfl rfl (by (try simp only [List.map_toArray, List.map_cons, List.map_nil]); first | done | rfl) ?_
  with_reducible refine (impl_ReadVar.calls k A c l at_ x nx ok _ HR1.out HC.out HV.out).mono ?_
  rintro e w2 ⟨rfl, hd⟩
  refine ⟨_, rfl, ?_⟩
  have R2 := Aside0.mk (impl_ReadEdit.Rs.below R1.out hd)
  clear hd R1 HR1
  refine hK.out _ _ ⟨(blk_cell R2.out.blk 0).trans rfl, (blk_cell R2.out.blk 1).trans rfl⟩ (fun hHeld => ?_)
  clear hK K
  refine norm_ (a' := ?_) ?_ ?_
  rotate_left
  · show Act.put _ (some 15) _ = _
    simp only [Act.put, List.setIfInBounds_toArray, List.set_cons_zero, List.set_cons_succ, i64_w, i32_w]
    rfl
  refine pure_ (i := 9) (N := some 6) (v := ?_) (a' := ?_) #[true, true, true, true, true, true, true, true, true, true, false, false, false, false, false, false] rfl rfl (by kernel_rfl) (fun _ _ _ h => h) (Or.inl ⟨by rfl, ?_⟩) ?_ ?_
  rotate_left
  · intro w'
    go_simp
    with_reducible rfl
  rotate_left
  · simp only [Act.put, List.setIfInBounds_toArray, List.set_cons_zero, List.set_cons_succ, i64_w, i32_w]
    rfl
  refine pure_ (i := 10) (N := some 16) (v := ?_) (a' := ?_) #[true, true, true, true, true, true, true, true, true, true, true, false, false, false, false, false] rfl rfl (by kernel_rfl) (fun _ _ _ h => h) (Or.inl ⟨by rfl, ?_⟩) ?_ ?_
  rotate_left
  · intro w'
    go_simp
    with_reducible rfl
  rotate_left
  · simp only [Act.put, List.setIfInBounds_toArray, List.set_cons_zero, List.set_cons_succ, i64_w, i32_w]
    rfl
  refine pure_ (i := 11) (N := some 17) (v := ?_) (a' := ?_) #[true, true, true, true, true, true, true, true, true, true, true, true, false, false, false, false] rfl rfl (by kernel_rfl) (fun _ _ _ h => h) (Or.inl ⟨by rfl, ?_⟩) ?_ ?_
  rotate_left
  · intro w'
    go_simp
    with_reducible rfl
  rotate_left
  · simp only [Act.put, List.setIfInBounds_toArray, List.set_cons_zero, List.set_cons_succ, i64_w, i32_w]
    rfl
  refine pure_ (i := 12) (N := some 18) (v := ?_) (a' := ?_) #[true, true, true, true, true, true, true, true, true, true, true, true, true, false, false, false] rfl rfl (by kernel_rfl) (fun _ _ _ h => h) (Or.inl ⟨by rfl, ?_⟩) ?_ ?_
  rotate_left
  · intro w'
    go_simp
    with_reducible rfl
  rotate_left
  · simp only [Act.put, List.setIfInBounds_toArray, List.set_cons_zero, List.set_cons_succ, i64_w, i32_w]
    rfl
  refine pure_ (i := 13) (N := some 3) (v := ?_) (a' := ?_) #[true, true, true, true, true, true, true, true, true, true, true, true, true, true, false, false] rfl rfl (by kernel_rfl) (fun _ _ _ h => h) (Or.inl ⟨by rfl, ?_⟩) ?_ ?_
  rotate_left
  · intro w'
    go_simp
    with_reducible rfl
  rotate_left
  · simp only [Act.put, List.setIfInBounds_toArray, List.set_cons_zero, List.set_cons_succ, i64_w, i32_w]
    rfl
  refine pure_ (i := 14) (N := some 4) (v := ?_) (a' := ?_) #[true, true, true, true, true, true, true, true, true, true, true, true, true, true, true, false] rfl rfl (by kernel_rfl) (fun _ _ _ h => h) (Or.inl ⟨by rfl, ?_⟩) ?_ ?_
  rotate_left
  · intro w'
    go_simp
    with_reducible rfl
  rotate_left
  · simp only [Act.put, List.setIfInBounds_toArray, List.set_cons_zero, List.set_cons_succ, i64_w, i32_w]
    rfl
  refine pure_ (i := 15) (N := some 5) (v := ?_) (a' := ?_) #[true, true, true, true, true, true, true, true, true, true, true, true, true, true, true, true] rfl rfl (by kernel_rfl) (fun _ _ _ h => h) (Or.inl ⟨by rfl, ?_⟩) ?_ ?_
  rotate_left
  · intro w'
    go_simp
    with_reducible rfl
  rotate_left
  · simp only [Act.put, List.setIfInBounds_toArray, List.set_cons_zero, List.set_cons_succ, i64_w, i32_w]
    rfl
  refine done_ (by kernel_rfl) ?_
  clear hHeld
  have hx := c3 R2.out.blk
  have hf := f3 R2.out.blk
  cases bad with
  | true =>
    have H2 := H.out
    simp only [if_true, Prod.mk.injEq] at H2
    obtain ⟨rfl, rfl, rfl⟩ := H2
    clear H
    go_wp2
    go_ret
    exact ⟨rfl, by with_reducible repeat (first | exact R2.out | apply impl_ReadEdit.Rs.drewN | apply impl_ReadEdit.Rs.drew | apply impl_ReadEdit.Rs.set2)⟩
  | false =>
    cases ok with
    | false =>
      have H2 := H.out
      simp only [Bool.false_eq_true, if_true, if_false, Prod.mk.injEq] at H2
      obtain ⟨rfl, rfl, rfl⟩ := H2
      clear H
      go_wp2
      go_ret
      exact ⟨rfl, by with_reducible repeat (first | exact R2.out | apply impl_ReadEdit.Rs.drewN | apply impl_ReadEdit.Rs.drew | apply impl_ReadEdit.Rs.set2)⟩
    | true =>
      cases h1 : decide (x > 1000000000) with
      | true =>
        have H2 := H.out
        simp only [h1, Bool.false_eq_true, Bool.true_eq_false, if_true, if_false, Prod.mk.injEq] at H2
        obtain ⟨rfl, rfl, rfl⟩ := H2
        clear H
        go_wp2
        go_ret
        exact ⟨rfl, by with_reducible repeat (first | exact R2.out | apply impl_ReadEdit.Rs.drewN | apply impl_ReadEdit.Rs.drew | apply impl_ReadEdit.Rs.set2)⟩
      | false =>
        have H2 := H.out
        simp only [h1, Bool.false_eq_true, Bool.true_eq_false, if_false, Prod.mk.injEq] at H2
        obtain ⟨rfl, rfl, rfl⟩ := H2
        clear H
        go_wp2
        go_ret
        exact ⟨by first | rfl | (rw [i64_w]; done) | (simp only [i64_w]; done), by with_reducible repeat (first | exact R2.out | apply impl_ReadEdit.Rs.drewN | apply impl_ReadEdit.Rs.drew | apply impl_ReadEdit.Rs.set1)⟩
def impl_ReadEdit.tk (l : List Int) (at_ : Int) (bad : Bool) (n : Int) : Option (List Int × Int × Bool) := if bad = true then some ([], at_, true) else (impl_within.f n 0 (wrap64 ((l.length : Int) - at_))).bind fun b => if b = true then (if 0 ≤ n ∧ 0 ≤ at_ ∧ at_ + n ≤ l.length ∧ (l.length : Int) ≤ 4611686018427387904 then some ((l.take (at_ + n).toNat).drop at_.toNat, at_ + n, false) else none) else some ([], at_, true)
set_option maxHeartbeats 8000000 in
set_option maxRecDepth 100000 in
/-- some bytes are taken: a cut of what came in is handed back -/
theorem impl_ReadEdit.take_calls (k : Nat) (l : List Int) (at_ : Int) (bad : Bool) (n : Int) (M : List Int) (at2 : Int) (bad2 : Bool) (A : Option Addr) (c gr : Nat) (w : World) (hr : ∀ V, Gr gr w V → Kd.C (Kd.int .u8) V A l.length l) (hc : l.length ≤ c) (hb : w.heap[gr]? = some (.cells #[.slice A l.length c, .int .i64 at_, .bool bad] 80 (0, 0))) (h : impl_ReadEdit.tk l at_ bad n = some (M, at2, bad2)) :
    Calls Try.prog 40 #[.pointer (some ⟨gr, 0, none⟩), .int .i64 n] w fun e w' => ∃ A2 c2, e = .returned (.slice A2 M.length c2) ∧ (∀ V, Gr gr w V → Kd.C (Kd.int .u8) V A2 M.length M) ∧ impl_ReadEdit.Rs gr w A l.length c at2 bad2 w' := by
  have hu := Try.underlying80
  unfold impl_ReadEdit.tk at h
  have HR := Aside0.mk hr
  have HC := Aside0.mk hc
  have R0 := Aside0.mk (⟨Gr.refl gr w, hb⟩ : impl_ReadEdit.Rs gr w A l.length c at_ bad w)
  have H := Aside0.mk h
  clear hr hc hb h
  go_enter Try.func40, Try.ntmps40
  go_wp2
  have R3 := Aside0.mk R0.out.drew
  cases bad with
  | true =>
    refine start_ (n := 19) (S := fun w' => w'.cell? ⟨gr, 0, none⟩ = some (.slice A l.length c) ∧ w'.cell? ⟨gr, 1, none⟩ = some (.int .i64 at_) ∧ w'.cell? ⟨gr, 2, none⟩ = some (.bool true)) (ds := []) #[false, false, false, false, false, false, false, false, false, false, false, false, false, false, false, false, false, false, false] (by kernel_rfl) rfl rfl ⟨(blk_cell R3.out.blk 0).trans rfl, (blk_cell R3.out.blk 1).trans rfl, (blk_cell R3.out.blk 2).trans rfl⟩ (fun hHeld => ?_)
    generalize w.drew = w3 at R3 hHeld ⊢
    refine pure_ (i := 0) (N := some 5) (v := ?_) (a' := ?_) #[true, false, false, false, false, false, false, false, false, false, false, false, false, false, false, false, false, false, false] rfl rfl (by kernel_rfl) (fun _ _ _ h => h) (Or.inl ⟨by rfl, ?_⟩) ?_ ?_
    rotate_left
    · intro w'
      go_simp
      with_reducible rfl
    rotate_left
    · simp only [Act.put, List.setIfInBounds_toArray, List.set_cons_zero, List.set_cons_succ, i64_w, i32_w]
      rfl
    refine pure_ (i := 1) (N := some 6) (v := ?_) (a' := ?_) #[true, true, false, false, false, false, false, false, false, false, false, false, false, false, false, false, false, false, false] rfl rfl (by kernel_rfl) (fun _ _ _ h => h) (Or.inl ⟨by rfl, ?_⟩) ?_ ?_
    rotate_left
    · intro w'
      go_simp
      with_reducible rfl
    rotate_left
    · simp only [Act.put, List.setIfInBounds_toArray, List.set_cons_zero, List.set_cons_succ, i64_w, i32_w]
      rfl
    refine pure_ (i := 2) (N := some 7) (v := ?_) (a' := ?_) #[true, true, true, false, false, false, false, false, false, false, false, false, false, false, false, false, false, false, false] rfl rfl (by kernel_rfl) (fun _ _ _ h => h) (Or.inl ⟨by rfl, ?_⟩) ?_ ?_
    rotate_left
    · intro w'
      go_simp
      with_reducible rfl
    rotate_left
    · simp only [Act.put, List.setIfInBounds_toArray, List.set_cons_zero, List.set_cons_succ, i64_w, i32_w]
      rfl
    refine take_ (i := 3) (N := some 8) (v := ?_) (a' := ?_) #[true, true, true, true, false, false, false, false, false, false, false, false, false, false, false, false, false, false, false] rfl rfl (by kernel_rfl) (fun _ _ _ h => h) (Or.inl ⟨by rfl, ?_⟩) hHeld ?_ ?_
    rotate_left
    · rintro w' ⟨s0, s1, s2⟩
      go_simp
      with_reducible rfl
    rotate_left
    · simp only [Act.put, List.setIfInBounds_toArray, List.set_cons_zero, List.set_cons_succ, i64_w, i32_w]
      rfl
    refine pure_ (i := 4) (N := some 9) (v := ?_) (a' := ?_) #[true, true, true, true, true, false, false, false, false, false, false, false, false, false, false, false, false, false, false] rfl rfl (by kernel_rfl) (fun _ _ _ h => h) (Or.inl ⟨by rfl, ?_⟩) ?_ ?_
    rotate_left
    · intro w'
      go_simp
      with_reducible rfl
    rotate_left
    · simp only [Act.put, List.setIfInBounds_toArray, List.set_cons_zero, List.set_cons_succ, i64_w, i32_w]
      rfl
    refine pure_ (i := 5) (N := some 10) (v := undef) (a' := ?_) #[true, true, true, true, true, true, false, false, false, false, false, false, false, false, false, false, false, false, false] rfl rfl (by kernel_rfl) (fun _ _ _ h => h) (Or.inr ⟨by rfl, rfl⟩) ?_ ?_
    rotate_left
    · simp only [Act.put, List.setIfInBounds_toArray, List.set_cons_zero, List.set_cons_succ, i64_w, i32_w]
      rfl
    refine pure_ (i := 6) (N := some 11) (v := undef) (a' := ?_) #[true, true, true, true, true, true, true, false, false, false, false, false, false, false, false, false, false, false, false] rfl rfl (by kernel_rfl) (fun _ _ _ h => h) (Or.inr ⟨by rfl, rfl⟩) ?_ ?_
    rotate_left
    · simp only [Act.put, List.setIfInBounds_toArray, List.set_cons_zero, List.set_cons_succ, i64_w, i32_w]
      rfl
    refine pure_ (i := 7) (N := some 12) (v := undef) (a' := ?_) #[true, true, true, true, true, true, true, true, false, false, false, false, false, false, false, false, false, false, false] rfl rfl (by kernel_rfl) (fun _ _ _ h => h) (Or.inr ⟨by rfl, rfl⟩) ?_ ?_
    rotate_left
    · simp only [Act.put, List.setIfInBounds_toArray, List.set_cons_zero, List.set_cons_succ, i64_w, i32_w]
      rfl
    refine pure_ (i := 8) (N := some 13) (v := undef) (a' := ?_) #[true, true, true, true, true, true, true, true, true, false, false, false, false, false, false, false, false, false, false] rfl rfl (by kernel_rfl) (fun _ _ _ h => h) (Or.inr ⟨by rfl, rfl⟩) ?_ ?_
    rotate_left
    · simp only [Act.put, List.setIfInBounds_toArray, List.set_cons_zero, List.set_cons_succ, i64_w, i32_w]
      rfl
    refine pure_ (i := 9) (N := some 14) (v := undef) (a' := ?_) #[true, true, true, true, true, true, true, true, true, true, false, false, false, false, false, false, false, false, false] rfl rfl (by kernel_rfl) (fun _ _ _ h => h) (Or.inr ⟨by rfl, rfl⟩) ?_ ?_
    rotate_left
    · simp only [Act.put, List.setIfInBounds_toArray, List.set_cons_zero, List.set_cons_succ, i64_w, i32_w]
      rfl
    refine pure_ (i := 10) (N := some 15) (v := undef) (a' := ?_) #[true, true, true, true, true, true, true, true, true, true, true, false, false, false, false, false, false, false, false] rfl rfl (by kernel_rfl) (fun _ _ _ h => h) (Or.inr ⟨by rfl, rfl⟩) ?_ ?_
    rotate_left
    · simp only [Act.put, List.setIfInBounds_toArray, List.set_cons_zero, List.set_cons_succ, i64_w, i32_w]
      rfl
    refine pure_ (i := 11) (N := some 16) (v := undef) (a' := ?_) #[true, true, true, true, true, true, true, true, true, true, true, true, false, false, false, false, false, false, false] rfl rfl (by kernel_rfl) (fun _ _ _ h => h) (Or.inr ⟨by rfl, rfl⟩) ?_ ?_
    rotate_left
    · simp only [Act.put, List.setIfInBounds_toArray, List.set_cons_zero, List.set_cons_succ, i64_w, i32_w]
      rfl
    refine pure_ (i := 12) (N := some 17) (v := undef) (a' := ?_) #[true, true, true, true, true, true, true, true, true, true, true, true, true, false, false, false, false, false, false] rfl rfl (by kernel_rfl) (fun _ _ _ h => h) (Or.inr ⟨by rfl, rfl⟩) ?_ ?_
    rotate_left
    · simp only [Act.put, List.setIfInBounds_toArray, List.set_cons_zero, List.set_cons_succ, i64_w, i32_w]
      rfl
    refine pure_ (i := 13) (N := some 18) (v := undef) (a' := ?_) #[true, true, true, true, true, true, true, true, true, true, true, true, true, true, false, false, false, false, false] rfl rfl (by kernel_rfl) (fun _ _ _ h => h) (Or.inr ⟨by rfl, rfl⟩) ?_ ?_
    rotate_left
    · simp only [Act.put, List.setIfInBounds_toArray, List.set_cons_zero, List.set_cons_succ, i64_w, i32_w]
      rfl
    refine pure_ (i := 14) (N := some 19) (v := undef) (a' := ?_) #[true, true, true, true, true, true, true, true, true, true, true, true, true, true, true, false, false, false, false] rfl rfl (by kernel_rfl) (fun _ _ _ h => h) (Or.inr ⟨by rfl, rfl⟩) ?_ ?_
    rotate_left
    · simp only [Act.put, List.setIfInBounds_toArray, List.set_cons_zero, List.set_cons_succ, i64_w, i32_w]
      rfl
    refine pure_ (i := 15) (N := some 20) (v := undef) (a' := ?_) #[true, true, true, true, true, true, true, true, true, true, true, true, true, true, true, true, false, false, false] rfl rfl (by kernel_rfl) (fun _ _ _ h => h) (Or.inr ⟨by rfl, rfl⟩) ?_ ?_
    rotate_left
    · simp only [Act.put, List.setIfInBounds_toArray, List.set_cons_zero, List.set_cons_succ, i64_w, i32_w]
      rfl
    refine pure_ (i := 16) (N := some 21) (v := undef) (a' := ?_) #[true, true, true, true, true, true, true, true, true, true, true, true, true, true, true, true, true, false, false] rfl rfl (by kernel_rfl) (fun _ _ _ h => h) (Or.inr ⟨by rfl, rfl⟩) ?_ ?_
    rotate_left
    · simp only [Act.put, List.setIfInBounds_toArray, List.set_cons_zero, List.set_cons_succ, i64_w, i32_w]
      rfl
    refine pure_ (i := 17) (N := some 22) (v := undef) (a' := ?_) #[true, true, true, true, true, true, true, true, true, true, true, true, true, true, true, true, true, true, false] rfl rfl (by kernel_rfl) (fun _ _ _ h => h) (Or.inr ⟨by rfl, rfl⟩) ?_ ?_
    rotate_left
    · simp only [Act.put, List.setIfInBounds_toArray, List.set_cons_zero, List.set_cons_succ, i64_w, i32_w]
      rfl
    refine pure_ (i := 18) (N := some 23) (v := ?_) (a' := ?_) #[true, true, true, true, true, true, true, true, true, true, true, true, true, true, true, true, true, true, true] rfl rfl (by kernel_rfl) (fun _ _ _ h => h) (Or.inl ⟨by rfl, ?_⟩) ?_ ?_
    rotate_left
    · intro w'
      go_simp
      with_reducible rfl
    rotate_left
    · simp only [Act.put, List.setIfInBounds_toArray, List.set_cons_zero, List.set_cons_succ, i64_w, i32_w]
      rfl
    refine done_ (by kernel_rfl) ?_
    clear hHeld R0
    have R2 := R3
    clear R3
    have hx := c3 R2.out.blk
    have hf := f3 R2.out.blk
    have H2 := H.out
    simp only [if_true, Option.some.injEq, Prod.mk.injEq] at H2
    obtain ⟨rfl, rfl, rfl⟩ := H2
    clear H
    go_wp2
    go_ret
    exact ⟨none, 0, rfl, fun V _ => Kd.C_nil _ _, by with_reducible repeat (first | exact R2.out | apply impl_ReadEdit.Rs.drewN | apply impl_ReadEdit.Rs.drew | apply impl_ReadEdit.Rs.set2)⟩
  | false =>
    have h := H.out
    rw [if_neg (by decide)] at h
    replace h := Option.bind_eq_some_iff.mp h
    obtain ⟨b, hb1, h⟩ := h
    have HW := Aside0.mk hb1
    clear hb1 H
    have H := Aside0.mk h
    clear h
    refine start_ (n := 19) (S := fun w' => w'.cell? ⟨gr, 0, none⟩ = some (.slice A l.length c) ∧ w'.cell? ⟨gr, 1, none⟩ = some (.int .i64 at_) ∧ w'.cell? ⟨gr, 2, none⟩ = some (.bool false)) (ds := []) #[false, false, false, false, false, false, false, false, false, false, false, false, false, false, false, false, false, false, false] (by kernel_rfl) rfl rfl ⟨(blk_cell R3.out.blk 0).trans rfl, (blk_cell R3.out.blk 1).trans rfl, (blk_cell R3.out.blk 2).trans rfl⟩ (fun hHeld => ?_)
    generalize w.drew = w3 at R3 hHeld ⊢
    refine pure_ (i := 0) (N := some 5) (v := ?_) (a' := ?_) #[true, false, false, false, false, false, false, false, false, false, false, false, false, false, false, false, false, false, false] rfl rfl (by kernel_rfl) (fun _ _ _ h => h) (Or.inl ⟨by rfl, ?_⟩) ?_ ?_
    rotate_left
    · intro w'
      go_simp
      with_reducible rfl
    rotate_left
    · simp only [Act.put, List.setIfInBounds_toArray, List.set_cons_zero, List.set_cons_succ, i64_w, i32_w]
      rfl
    refine pure_ (i := 1) (N := some 6) (v := ?_) (a' := ?_) #[true, true, false, false, false, false, false, false, false, false, false, false, false, false, false, false, false, false, false] rfl rfl (by kernel_rfl) (fun _ _ _ h => h) (Or.inl ⟨by rfl, ?_⟩) ?_ ?_
    rotate_left
    · intro w'
      go_simp
      with_reducible rfl
    rotate_left
    · simp only [Act.put, List.setIfInBounds_toArray, List.set_cons_zero, List.set_cons_succ, i64_w, i32_w]
      rfl
    refine pure_ (i := 2) (N := some 7) (v := ?_) (a' := ?_) #[true, true, true, false, false, false, false, false, false, false, false, false, false, false, false, false, false, false, false] rfl rfl (by kernel_rfl) (fun _ _ _ h => h) (Or.inl ⟨by rfl, ?_⟩) ?_ ?_
    rotate_left
    · intro w'
      go_simp
      with_reducible rfl
    rotate_left
    · simp only [Act.put, List.setIfInBounds_toArray, List.set_cons_zero, List.set_cons_succ, i64_w, i32_w]
      rfl
    refine take_ (i := 3) (N := some 8) (v := ?_) (a' := ?_) #[true, true, true, true, false, false, false, false, false, false, false, false, false, false, false, false, false, false, false] rfl rfl (by kernel_rfl) (fun _ _ _ h => h) (Or.inl ⟨by rfl, ?_⟩) hHeld ?_ ?_
    rotate_left
    · rintro w' ⟨s0, s1, s2⟩
      go_simp
      with_reducible rfl
    rotate_left
    · simp only [Act.put, List.setIfInBounds_toArray, List.set_cons_zero, List.set_cons_succ, i64_w, i32_w]
      rfl
    refine pure_ (i := 4) (N := some 9) (v := ?_) (a' := ?_) #[true, true, true, true, true, false, false, false, false, false, false, false, false, false, false, false, false, false, false] rfl rfl (by kernel_rfl) (fun _ _ _ h => h) (Or.inl ⟨by rfl, ?_⟩) ?_ ?_
    rotate_left
    · intro w'
      go_simp
      with_reducible rfl
    rotate_left
    · simp only [Act.put, List.setIfInBounds_toArray, List.set_cons_zero, List.set_cons_succ, i64_w, i32_w]
      rfl
    refine pure_ (i := 5) (N := some 10) (v := ?_) (a' := ?_) #[true, true, true, true, true, true, false, false, false, false, false, false, false, false, false, false, false, false, false] rfl rfl (by kernel_rfl) (fun _ _ _ h => h) (Or.inl ⟨by rfl, ?_⟩) ?_ ?_
    rotate_left
    · intro w'
      go_simp
      with_reducible rfl
    rotate_left
    · simp only [Act.put, List.setIfInBounds_toArray, List.set_cons_zero, List.set_cons_succ, i64_w, i32_w]
      rfl
    refine pure_ (i := 6) (N := some 11) (v := ?_) (a' := ?_) #[true, true, true, true, true, true, true, false, false, false, false, false, false, false, false, false, false, false, false] rfl rfl (by kernel_rfl) (fun _ _ _ h => h) (Or.inl ⟨by rfl, ?_⟩) ?_ ?_
    rotate_left
    · intro w'
      go_simp
      with_reducible rfl
    rotate_left
    · simp only [Act.put, List.setIfInBounds_toArray, List.set_cons_zero, List.set_cons_succ, i64_w, i32_w]
      rfl
    refine pure_ (i := 7) (N := some 12) (v := ?_) (a' := ?_) #[true, true, true, true, true, true, true, true, false, false, false, false, false, false, false, false, false, false, false] rfl rfl (by kernel_rfl) (fun _ _ _ h => h) (Or.inl ⟨by rfl, ?_⟩) ?_ ?_
    rotate_left
    · intro w'
      go_simp
      with_reducible rfl
    rotate_left
    · simp only [Act.put, List.setIfInBounds_toArray, List.set_cons_zero, List.set_cons_succ, i64_w, i32_w]
      rfl
    refine pure_ (i := 8) (N := some 13) (v := ?_) (a' := ?_) #[true, true, true, true, true, true, true, true, true, false, false, false, false, false, false, false, false, false, false] rfl rfl (by kernel_rfl) (fun _ _ _ h => h) (Or.inl ⟨by rfl, ?_⟩) ?_ ?_
    rotate_left
    · intro w'
      go_simp
      with_reducible rfl
    rotate_left
    · simp only [Act.put, List.setIfInBounds_toArray, List.set_cons_zero, List.set_cons_succ, i64_w, i32_w]
      rfl
    refine take_ (i := 9) (N := some 14) (v := ?_) (a' := ?_) #[true, true, true, true, true, true, true, true, true, true, false, false, false, false, false, false, false, false, false] rfl rfl (by kernel_rfl) (fun _ _ _ h => h) (Or.inl ⟨by rfl, ?_⟩) hHeld ?_ ?_
    rotate_left
    · rintro w' ⟨s0, s1, s2⟩
      go_simp
      with_reducible rfl
    rotate_left
    · simp only [Act.put, List.setIfInBounds_toArray, List.set_cons_zero, List.set_cons_succ, i64_w, i32_w]
      rfl
    refine pure_ (i := 10) (N := some 15) (v := ?_) (a' := ?_) #[true, true, true, true, true, true, true, true, true, true, true, false, false, false, false, false, false, false, false] rfl rfl (by kernel_rfl) (fun _ _ _ h => h) (Or.inl ⟨by rfl, ?_⟩) ?_ ?_
    rotate_left
    · intro w'
      go_simp
      with_reducible rfl
    rotate_left
    · simp only [Act.put, List.setIfInBounds_toArray, List.set_cons_zero, List.set_cons_succ, i64_w, i32_w]
      rfl
    refine pure_ (i := 11) (N := some 16) (v := ?_) (a' := ?_) #[true, true, true, true, true, true, true, true, true, true, true, true, false, false, false, false, false, false, false] rfl rfl (by kernel_rfl) (fun _ _ _ h => h) (Or.inl ⟨by rfl, ?_⟩) ?_ ?_
    rotate_left
    · intro w'
      go_simp
      with_reducible rfl
    rotate_left
    · simp only [Act.put, List.setIfInBounds_toArray, List.set_cons_zero, List.set_cons_succ, i64_w, i32_w]
      rfl
    refine pure_ (i := 12) (N := some 17) (v := ?_) (a' := ?_) #[true, true, true, true, true, true, true, true, true, true, true, true, true, false, false, false, false, false, false] rfl rfl (by kernel_rfl) (fun _ _ _ h => h) (Or.inl ⟨by rfl, ?_⟩) ?_ ?_
    rotate_left
    · intro w'
      go_simp
      with_reducible rfl
    rotate_left
    · simp only [Act.put, List.setIfInBounds_toArray, List.set_cons_zero, List.set_cons_succ, i64_w, i32_w]
      rfl
    refine pure_ (i := 13) (N := some 18) (v := ?_) (a' := ?_) #[true, true, true, true, true, true, true, true, true, true, true, true, true, true, false, false, false, false, false] rfl rfl (by kernel_rfl) (fun _ _ _ h => h) (Or.inl ⟨by rfl, ?_⟩) ?_ ?_
    rotate_left
    · intro w'
      go_simp
      with_reducible rfl
    rotate_left
    · simp only [Act.put, List.setIfInBounds_toArray, List.set_cons_zero, List.set_cons_succ, i64_w, i32_w]
      rfl
    refine take_ (i := 14) (N := some 19) (v := ?_) (a' := ?_) #[true, true, true, true, true, true, true, true, true, true, true, true, true, true, true, false, false, false, false] rfl rfl (by kernel_rfl) (fun _ _ _ h => h) (Or.inl ⟨by rfl, ?_⟩) hHeld ?_ ?_
    rotate_left
    · rintro w' ⟨s0, s1, s2⟩
      go_simp
      with_reducible rfl
    rotate_left
    · simp only [Act.put, List.setIfInBounds_toArray, List.set_cons_zero, List.set_cons_succ, i64_w, i32_w]
      rfl
    refine pure_ (i := 15) (N := some 20) (v := ?_) (a' := ?_) #[true, true, true, true, true, true, true, true, true, true, true, true, true, true, true, true, false, false, false] rfl rfl (by kernel_rfl) (fun _ _ _ h => h) (Or.inl ⟨by rfl, ?_⟩) ?_ ?_
    rotate_left
    · intro w'
      go_simp
      with_reducible rfl
    rotate_left
    · simp only [Act.put, List.setIfInBounds_toArray, List.set_cons_zero, List.set_cons_succ, i64_w, i32_w]
      rfl
    refine one_ (i := 16) (N := some 21) #[true, true, true, true, true, true, true, true, true, true, true, true, true, true, true, true, true, false, false] rfl rfl (by kernel_rfl) (by decide) (fun K hK => ?_)
    refine goes_ Try.func64 (by kernel_rfl) rfl #[.int .i64 n, .int .i64 0, .int .i64 (wrap64 ((l.length : Int) - at_))] (by rfl) rfl rfl (by (try simp only [List.map_toArray, List.map_cons, List.map_nil]); first | done | rfl) ?_
    with_reducible refine (impl_within.calls n 0 (wrap64 ((l.length : Int) - at_)) b _ HW.out).mono ?_
    rintro e w4 ⟨rfl, hd⟩
    refine ⟨_, rfl, ?_⟩
    have R2 := Aside0.mk (impl_ReadEdit.Rs.below R3.out hd.below)
    clear hd R3 R0
    refine hK.out _ _ ⟨(blk_cell R2.out.blk 0).trans rfl, (blk_cell R2.out.blk 1).trans rfl, (blk_cell R2.out.blk 2).trans rfl⟩ (fun hHeld => ?_)
    clear hK K
    refine norm_ (a' := ?_) ?_ ?_
    rotate_left
    · show Act.put _ (some 21) _ = _
      simp only [Act.put, List.setIfInBounds_toArray, List.set_cons_zero, List.set_cons_succ, i64_w, i32_w]
      rfl
    refine pure_ (i := 17) (N := some 22) (v := ?_) (a' := ?_) #[true, true, true, true, true, true, true, true, true, true, true, true, true, true, true, true, true, true, false] rfl rfl (by kernel_rfl) (fun _ _ _ h => h) (Or.inl ⟨by rfl, ?_⟩) ?_ ?_
    rotate_left
    · intro w'
      go_simp
      with_reducible rfl
    rotate_left
    · simp only [Act.put, List.setIfInBounds_toArray, List.set_cons_zero, List.set_cons_succ, i64_w, i32_w]
      rfl
    refine pure_ (i := 18) (N := some 23) (v := ?_) (a' := ?_) #[true, true, true, true, true, true, true, true, true, true, true, true, true, true, true, true, true, true, true] rfl rfl (by kernel_rfl) (fun _ _ _ h => h) (Or.inl ⟨by rfl, ?_⟩) ?_ ?_
    rotate_left
    · intro w'
      go_simp
      with_reducible rfl
    rotate_left
    · simp only [Act.put, List.setIfInBounds_toArray, List.set_cons_zero, List.set_cons_succ, i64_w, i32_w]
      rfl
    refine done_ (by kernel_rfl) ?_
    clear hHeld
    have hx := c3 R2.out.blk
    have hf := f3 R2.out.blk
    cases b with
    | false =>
      have H2 := H.out
      simp only [Bool.false_eq_true, if_false, Option.some.injEq, Prod.mk.injEq] at H2
      obtain ⟨rfl, rfl, rfl⟩ := H2
      clear H
      go_wp2
      go_ret
      exact ⟨none, 0, rfl, fun V _ => Kd.C_nil _ _, by with_reducible repeat (first | exact R2.out | apply impl_ReadEdit.Rs.drewN | apply impl_ReadEdit.Rs.drew | apply impl_ReadEdit.Rs.set2)⟩
    | true =>
      have H2 := H.out
      rw [if_pos rfl] at H2
      by_cases hin : 0 ≤ n ∧ 0 ≤ at_ ∧ at_ + n ≤ l.length ∧ (l.length : Int) ≤ 4611686018427387904
      · rw [if_pos hin] at H2
        obtain ⟨hn0, ha0, hle, hll⟩ := hin
        simp only [Option.some.injEq, Prod.mk.injEq] at H2
        obtain ⟨hM, rfl, rfl⟩ := H2
        have ha : wrap64 (at_ + n) = at_ + n := by unfold wrap64; omega
        have hs : wrap64 (at_ + n - n) = at_ := by unfold wrap64; omega
        clear H
        have hs1 : wrap64 at_ = at_ := by unfold wrap64; omega
        have hcl := HC.out
        have hc1 : 0 ≤ at_ + n := by omega
        have hc2 : at_ + n ≤ (c : Int) := by omega
        have hc3 : at_ ≤ max (at_ + n) 0 := by omega
        have hML : M.length = (at_ + n).toNat - at_.toNat := by rw [← hM, List.length_drop, List.length_take]; omega
        have HCV := Aside0.mk (show ∀ V, Gr gr w V → Kd.C (Kd.int .u8) V (if c = at_.toNat then A else Option.map (fun x => x.add at_.toNat) A) M.length M from fun V hV => by
          have h3 := Kd.C_mid (lo := at_.toNat) (hi := (at_ + n).toNat) (c := c) (HR.out V hV) (by omega) (by omega) hcl
          simp only [show (Kd.int .u8).sz = 1 from rfl, Nat.mul_one] at h3
          rw [hM] at h3
          exact h3)
        have HML := Aside0.mk hML
        clear hM hML hcl
        go_wp2
        have R4 := Aside0.mk (impl_ReadEdit.Rs.set1 R2.out (at_ + n)).drew
        refine start_ (n := 16) (S := fun w' => w'.cell? ⟨gr, 0, none⟩ = some (.slice A l.length c) ∧ w'.cell? ⟨gr, 1, none⟩ = some (.int .i64 (at_ + n))) (ds := []) #[false, false, false, false, false, false, false, false, false, false, false, false, false, false, false, false] (by kernel_rfl) rfl rfl ⟨(blk_cell R4.out.blk 0).trans rfl, (blk_cell R4.out.blk 1).trans rfl⟩ (fun hHeld => ?_)
        clear R2 hx hf
        generalize World.drew _ = w4 at R4 hHeld ⊢
        refine pure_ (i := 0) (N := some 35) (v := ?_) (a' := ?_) #[true, false, false, false, false, false, false, false, false, false, false, false, false, false, false, false] rfl rfl (by kernel_rfl) (fun _ _ _ h => h) (Or.inl ⟨by rfl, ?_⟩) ?_ ?_
        rotate_left
        · intro w'
          go_simp
          with_reducible rfl
        rotate_left
        · simp only [Act.put, List.setIfInBounds_toArray, List.set_cons_zero, List.set_cons_succ, i64_w, i32_w]
          rfl
        refine pure_ (i := 1) (N := some 36) (v := ?_) (a' := ?_) #[true, true, false, false, false, false, false, false, false, false, false, false, false, false, false, false] rfl rfl (by kernel_rfl) (fun _ _ _ h => h) (Or.inl ⟨by rfl, ?_⟩) ?_ ?_
        rotate_left
        · intro w'
          go_simp
          with_reducible rfl
        rotate_left
        · simp only [Act.put, List.setIfInBounds_toArray, List.set_cons_zero, List.set_cons_succ, i64_w, i32_w]
          rfl
        refine pure_ (i := 2) (N := some 37) (v := ?_) (a' := ?_) #[true, true, true, false, false, false, false, false, false, false, false, false, false, false, false, false] rfl rfl (by kernel_rfl) (fun _ _ _ h => h) (Or.inl ⟨by rfl, ?_⟩) ?_ ?_
        rotate_left
        · intro w'
          go_simp
          with_reducible rfl
        rotate_left
        · simp only [Act.put, List.setIfInBounds_toArray, List.set_cons_zero, List.set_cons_succ, i64_w, i32_w]
          rfl
        refine take_ (i := 3) (N := some 38) (v := ?_) (a' := ?_) #[true, true, true, true, false, false, false, false, false, false, false, false, false, false, false, false] rfl rfl (by kernel_rfl) (fun _ _ _ h => h) (Or.inl ⟨by rfl, ?_⟩) hHeld ?_ ?_
        rotate_left
        · rintro w' ⟨s0, s1⟩
          go_simp
          with_reducible rfl
        rotate_left
        · simp only [Act.put, List.setIfInBounds_toArray, List.set_cons_zero, List.set_cons_succ, i64_w, i32_w]
          rfl
        refine pure_ (i := 4) (N := some 39) (v := ?_) (a' := ?_) #[true, true, true, true, true, false, false, false, false, false, false, false, false, false, false, false] rfl rfl (by kernel_rfl) (fun _ _ _ h => h) (Or.inl ⟨by rfl, ?_⟩) ?_ ?_
        rotate_left
        · intro w'
          go_simp
          with_reducible rfl
        rotate_left
        · simp only [Act.put, List.setIfInBounds_toArray, List.set_cons_zero, List.set_cons_succ, i64_w, i32_w]
          rfl
        refine pure_ (i := 5) (N := some 40) (v := ?_) (a' := ?_) #[true, true, true, true, true, true, false, false, false, false, false, false, false, false, false, false] rfl rfl (by kernel_rfl) (fun _ _ _ h => h) (Or.inl ⟨by rfl, ?_⟩) ?_ ?_
        rotate_left
        · intro w'
          go_simp
          with_reducible rfl
        rotate_left
        · simp only [Act.put, List.setIfInBounds_toArray, List.set_cons_zero, List.set_cons_succ, i64_w, i32_w]
          rfl
        refine pure_ (i := 6) (N := some 41) (v := ?_) (a' := ?_) #[true, true, true, true, true, true, true, false, false, false, false, false, false, false, false, false] rfl rfl (by kernel_rfl) (fun _ _ _ h => h) (Or.inl ⟨by rfl, ?_⟩) ?_ ?_
        rotate_left
        · intro w'
          go_simp
          with_reducible rfl
        rotate_left
        · simp only [Act.put, List.setIfInBounds_toArray, List.set_cons_zero, List.set_cons_succ, i64_w, i32_w]
          rfl
        refine take_ (i := 7) (N := some 42) (v := ?_) (a' := ?_) #[true, true, true, true, true, true, true, true, false, false, false, false, false, false, false, false] rfl rfl (by kernel_rfl) (fun _ _ _ h => h) (Or.inl ⟨by rfl, ?_⟩) hHeld ?_ ?_
        rotate_left
        · rintro w' ⟨s0, s1⟩
          go_simp
          with_reducible rfl
        rotate_left
        · simp only [Act.put, List.setIfInBounds_toArray, List.set_cons_zero, List.set_cons_succ, i64_w, i32_w]
          rfl
        refine pure_ (i := 8) (N := some 43) (v := ?_) (a' := ?_) #[true, true, true, true, true, true, true, true, true, false, false, false, false, false, false, false] rfl rfl (by kernel_rfl) (fun _ _ _ h => h) (Or.inl ⟨by rfl, ?_⟩) ?_ ?_
        rotate_left
        · intro w'
          go_simp
          with_reducible rfl
        rotate_left
        · simp only [Act.put, List.setIfInBounds_toArray, List.set_cons_zero, List.set_cons_succ, i64_w, i32_w]
          rfl
        refine pure_ (i := 9) (N := some 44) (v := ?_) (a' := ?_) #[true, true, true, true, true, true, true, true, true, true, false, false, false, false, false, false] rfl rfl (by kernel_rfl) (fun _ _ _ h => h) (Or.inl ⟨by rfl, ?_⟩) ?_ ?_
        rotate_left
        · intro w'
          go_simp
          with_reducible rfl
        rotate_left
        · simp only [Act.put, List.setIfInBounds_toArray, List.set_cons_zero, List.set_cons_succ, i64_w, i32_w]
          rfl
        refine pure_ (i := 10) (N := some 45) (v := ?_) (a' := ?_) #[true, true, true, true, true, true, true, true, true, true, true, false, false, false, false, false] rfl rfl (by kernel_rfl) (fun _ _ _ h => h) (Or.inl ⟨by rfl, ?_⟩) ?_ ?_
        rotate_left
        · intro w'
          go_simp
          with_reducible rfl
        rotate_left
        · simp only [Act.put, List.setIfInBounds_toArray, List.set_cons_zero, List.set_cons_succ, i64_w, i32_w]
          rfl
        refine pure_ (i := 11) (N := some 46) (v := ?_) (a' := ?_) #[true, true, true, true, true, true, true, true, true, true, true, true, false, false, false, false] rfl rfl (by kernel_rfl) (fun _ _ _ h => h) (Or.inl ⟨by rfl, ?_⟩) ?_ ?_
        rotate_left
        · intro w'
          go_simp
          with_reducible rfl
        rotate_left
        · simp only [Act.put, List.setIfInBounds_toArray, List.set_cons_zero, List.set_cons_succ, i64_w, i32_w]
          rfl
        refine pure_ (i := 12) (N := some 47) (v := ?_) (a' := ?_) #[true, true, true, true, true, true, true, true, true, true, true, true, true, false, false, false] rfl rfl (by kernel_rfl) (fun _ _ _ h => h) (Or.inl ⟨by rfl, ?_⟩) ?_ ?_
        rotate_left
        · intro w'
          go_simp
          with_reducible rfl
        rotate_left
        · simp only [Act.put, List.setIfInBounds_toArray, List.set_cons_zero, List.set_cons_succ, i64_w, i32_w]
          rfl
        refine take_ (i := 13) (N := some 48) (v := ?_) (a' := ?_) #[true, true, true, true, true, true, true, true, true, true, true, true, true, true, false, false] rfl rfl (by kernel_rfl) (fun _ _ _ h => h) (Or.inl ⟨by rfl, ?_⟩) hHeld ?_ ?_
        rotate_left
        · rintro w' ⟨s0, s1⟩
          go_simp
          with_reducible rfl
        rotate_left
        · simp only [Act.put, List.setIfInBounds_toArray, List.set_cons_zero, List.set_cons_succ, i64_w, i32_w]
          rfl
        refine pure_ (i := 14) (N := some 49) (v := ?_) (a' := ?_) #[true, true, true, true, true, true, true, true, true, true, true, true, true, true, true, false] rfl rfl (by kernel_rfl) (fun _ _ _ h => h) (Or.inl ⟨by rfl, ?_⟩) ?_ ?_
        rotate_left
        · intro w'
          go_simp
          with_reducible rfl
        rotate_left
        · simp only [Act.put, List.setIfInBounds_toArray, List.set_cons_zero, List.set_cons_succ, i64_w, i32_w]
          rfl
        refine pure_ (i := 15) (N := some 4) (v := ?_) (a' := ?_) #[true, true, true, true, true, true, true, true, true, true, true, true, true, true, true, true] rfl rfl (by kernel_rfl) (fun _ _ _ h => h) (Or.inl ⟨by rfl, ?_⟩) ?_ ?_
        rotate_left
        · intro w'
          go_simp
          with_reducible rfl
        rotate_left
        · simp only [Act.put, List.setIfInBounds_toArray, List.set_cons_zero, List.set_cons_succ, i64_w, i32_w]
          rfl
        refine done_ (by kernel_rfl) ?_
        clear hHeld
        have R2 := R4
        clear R4
        generalize (if c = at_.toNat then A else Option.map (fun x => x.add at_.toNat) A) = A2 at HCV ⊢
        go_wp2
        go_ret
        rw [← HML.out]
        exact ⟨A2, _, rfl, HCV.out, by with_reducible repeat (first | exact R2.out | apply impl_ReadEdit.Rs.drewN | apply impl_ReadEdit.Rs.drew)⟩
      · rw [if_neg hin] at H2; cases H2
/-- what is so: the result's block, the reader's, the edit's; the rows -/
structure impl_ReadEdit.St (w0 W : World) (g2 g4 g5 : Nat) (A : Option Addr) (n c : Nat) (at_ : Int) (bad : Bool) (e0 e1 e2 : Int) (vd : Value) (D : List Int) (va : Value) (B : List S75) : Prop where
  br : W.heap[g2]? = some (.cells #[.int .i64 0, .int .i64 0, .int .i64 0, .slice none 0 0, .slice none 0 0] 26 (0, 0))
  brd : W.heap[g4]? = some (.cells #[.slice A n c, .int .i64 at_, .bool bad] 80 (0, 0))
  be : W.heap[g5]? = some (.cells #[.int .i64 e0, .int .i64 e1, .int .i64 e2, vd, va] 26 (0, 0))
  rd : Kd.R (Kd.int .i64) 3 W w0.heap.size (fun _ => True) vd D
  ra : Kd.R k75 75 W w0.heap.size (fun _ => True) va B
  bel : Below w0.heap.size w0 W
structure impl_ReadEdit.Gs (w0 : World) (g2 g4 g5 : Nat) : Prop where
  m2 : w0.heap.size ≤ g2
  m4 : w0.heap.size ≤ g4
  m5 : w0.heap.size ≤ g5
  n24 : g2 ≠ g4
  n25 : g2 ≠ g5
  n45 : g4 ≠ g5
section
variable {w0 W V : World} {g2 g4 g5 : Nat} {A : Option Addr} {n c : Nat} {at_ at2 : Int} {bad bad2 : Bool} {e0 e1 e2 : Int} {vd va vd2 va2 : Value} {D D2 : List Int} {B B2 : List S75}
theorem impl_ReadEdit.St.drew (h : impl_ReadEdit.St w0 W g2 g4 g5 A n c at_ bad e0 e1 e2 vd D va B) : impl_ReadEdit.St w0 W.drew g2 g4 g5 A n c at_ bad e0 e1 e2 vd D va B := ⟨h.br, h.brd, h.be, Kd.R_drew h.rd, Kd.R_drew h.ra, below_drew1 h.bel⟩
theorem impl_ReadEdit.St.drewN (h : impl_ReadEdit.St w0 W g2 g4 g5 A n c at_ bad e0 e1 e2 vd D va B) (m : Nat) : impl_ReadEdit.St w0 (W.drewN m) g2 g4 g5 A n c at_ bad e0 e1 e2 vd D va B := ⟨h.br, h.brd, h.be, Kd.R_drewN h.rd m, Kd.R_drewN h.ra m, pw_below_drewN h.bel m⟩
theorem impl_ReadEdit.St.below (h : impl_ReadEdit.St w0 W g2 g4 g5 A n c at_ bad e0 e1 e2 vd D va B) (hb : Below W.heap.size W V) : impl_ReadEdit.St w0 V g2 g4 g5 A n c at_ bad e0 e1 e2 vd D va B := ⟨blk_below h.br hb, blk_below h.brd hb, blk_below h.be hb, Kd.R_below h.rd hb, Kd.R_below h.ra hb, below_step h.bel hb⟩
/-- behind a call of the reader's -/
theorem impl_ReadEdit.St.read (h : impl_ReadEdit.St w0 W g2 g4 g5 A n c at_ bad e0 e1 e2 vd D va B) (G : impl_ReadEdit.Gs w0 g2 g4 g5) (k : impl_ReadEdit.Rs g4 W A n c at2 bad2 V) : impl_ReadEdit.St w0 V g2 g4 g5 A n c at2 bad2 e0 e1 e2 vd D va B :=
  ⟨k.step.blk h.br G.n24, k.blk, k.step.blk h.be G.n45.symm, k.step.Rt h.rd h.brd (by decide), k.step.Rt h.ra h.brd (by decide), k.step.below h.bel G.m4⟩
/-- the edit's drops are stored -/
theorem impl_ReadEdit.St.setD (h : impl_ReadEdit.St w0 W g2 g4 g5 A n c at_ bad e0 e1 e2 vd D va B) (G : impl_ReadEdit.Gs w0 g2 g4 g5) (hd : Kd.R (Kd.int .i64) 3 W w0.heap.size (fun _ => True) vd2 D2) : impl_ReadEdit.St w0 (W.setCell ⟨g5, 3, none⟩ vd2) g2 g4 g5 A n c at_ bad e0 e1 e2 vd2 D2 va B := by
  have on := (On.refl g5 W).set 3 vd2
  exact ⟨on.blk h.br G.n25, on.blk h.brd G.n45, blk_put h.be 3 _ rfl, on.Rt hd h.be (by decide), on.Rt h.ra h.be (by decide), on.below h.bel G.m5⟩
theorem impl_ReadEdit.St.setA (h : impl_ReadEdit.St w0 W g2 g4 g5 A n c at_ bad e0 e1 e2 vd D va B) (G : impl_ReadEdit.Gs w0 g2 g4 g5) (ha : Kd.R k75 75 W w0.heap.size (fun _ => True) va2 B2) : impl_ReadEdit.St w0 (W.setCell ⟨g5, 4, none⟩ va2) g2 g4 g5 A n c at_ bad e0 e1 e2 vd D va2 B2 := by
  have on := (On.refl g5 W).set 4 va2
  exact ⟨on.blk h.br G.n25, on.blk h.brd G.n45, blk_put h.be 4 _ rfl, on.Rt h.rd h.be (by decide), on.Rt ha h.be (by decide), on.below h.bel G.m5⟩
/-- behind an append to the drops: into them, or into new memory -/
theorem impl_ReadEdit.St.grownD (h : impl_ReadEdit.St w0 W g2 g4 g5 A n c at_ bad e0 e1 e2 vd D va B) (hg : W.grownBy V vd.ownBlock) (hb : Below w0.heap.size w0 V) (hd : Kd.R (Kd.int .i64) 3 V w0.heap.size (fun _ => True) vd2 D2) : V.heap[g2]? = some (.cells #[.int .i64 0, .int .i64 0, .int .i64 0, .slice none 0 0, .slice none 0 0] 26 (0, 0)) ∧ V.heap[g4]? = some (.cells #[.slice A n c, .int .i64 at_, .bool bad] 80 (0, 0)) ∧ V.heap[g5]? = some (.cells #[.int .i64 e0, .int .i64 e1, .int .i64 e2, vd, va] 26 (0, 0)) ∧ Kd.R k75 75 V w0.heap.size (fun _ => True) va B :=
  ⟨blk_grown h.br hg (Kd.R_ne h.rd h.br (by decide)), blk_grown h.brd hg (Kd.R_ne h.rd h.brd (by decide)), blk_grown h.be hg (Kd.R_ne h.rd h.be (by decide)), Kd.R_over h.ra h.rd (by decide) hg⟩
end
/-- in a round of the second loop: the variable of the round, and the row of adds apart from it -/
structure impl_ReadEdit.It (w0 W : World) (g2 g4 g5 g8 : Nat) (A : Option Addr) (n c : Nat) (at_ : Int) (bad : Bool) (e0 e1 e2 : Int) (vd : Value) (D : List Int) (va : Value) (B : List S75) (z : S75) : Prop where
  br : W.heap[g2]? = some (.cells #[.int .i64 0, .int .i64 0, .int .i64 0, .slice none 0 0, .slice none 0 0] 26 (0, 0))
  brd : W.heap[g4]? = some (.cells #[.slice A n c, .int .i64 at_, .bool bad] 80 (0, 0))
  be : W.heap[g5]? = some (.cells #[.int .i64 e0, .int .i64 e1, .int .i64 e2, vd, va] 26 (0, 0))
  bz : W.heap[g8]? = some (.cells #[.int .i64 z.f0, .int .i64 z.f1.f0, .string z.f1.f1, .string z.f1.f2, .int .i64 z.f1.f3] 75 (0, 0))
  rd : Kd.R (Kd.int .i64) 3 W w0.heap.size (fun _ => True) vd D
  ra : Kd.R k75 75 W w0.heap.size (fun k => k ≠ g8) va B
  bel : Below w0.heap.size w0 W
structure impl_ReadEdit.G8 (w0 : World) (g2 g4 g5 g8 : Nat) : Prop where
  m8 : w0.heap.size ≤ g8
  n28 : g2 ≠ g8
  n48 : g4 ≠ g8
  n58 : g5 ≠ g8
section
variable {w0 W V : World} {g2 g4 g5 g8 : Nat} {A : Option Addr} {n c : Nat} {at_ at2 : Int} {bad bad2 : Bool} {e0 e1 e2 : Int} {vd va : Value} {D : List Int} {B : List S75} {z y : S75}
theorem impl_ReadEdit.It.drew (h : impl_ReadEdit.It w0 W g2 g4 g5 g8 A n c at_ bad e0 e1 e2 vd D va B z) : impl_ReadEdit.It w0 W.drew g2 g4 g5 g8 A n c at_ bad e0 e1 e2 vd D va B z := ⟨h.br, h.brd, h.be, h.bz, Kd.R_drew h.rd, Kd.R_drew h.ra, below_drew1 h.bel⟩
theorem impl_ReadEdit.It.drewN (h : impl_ReadEdit.It w0 W g2 g4 g5 g8 A n c at_ bad e0 e1 e2 vd D va B z) (m : Nat) : impl_ReadEdit.It w0 (W.drewN m) g2 g4 g5 g8 A n c at_ bad e0 e1 e2 vd D va B z := ⟨h.br, h.brd, h.be, h.bz, Kd.R_drewN h.rd m, Kd.R_drewN h.ra m, pw_below_drewN h.bel m⟩
theorem impl_ReadEdit.It.below (h : impl_ReadEdit.It w0 W g2 g4 g5 g8 A n c at_ bad e0 e1 e2 vd D va B z) (hb : Below W.heap.size W V) : impl_ReadEdit.It w0 V g2 g4 g5 g8 A n c at_ bad e0 e1 e2 vd D va B z := ⟨blk_below h.br hb, blk_below h.brd hb, blk_below h.be hb, blk_below h.bz hb, Kd.R_below h.rd hb, Kd.R_below h.ra hb, below_step h.bel hb⟩
theorem impl_ReadEdit.It.read (h : impl_ReadEdit.It w0 W g2 g4 g5 g8 A n c at_ bad e0 e1 e2 vd D va B z) (G : impl_ReadEdit.Gs w0 g2 g4 g5) (G8 : impl_ReadEdit.G8 w0 g2 g4 g5 g8) (k : impl_ReadEdit.Rs g4 W A n c at2 bad2 V) : impl_ReadEdit.It w0 V g2 g4 g5 g8 A n c at2 bad2 e0 e1 e2 vd D va B z :=
  ⟨k.step.blk h.br G.n24, k.blk, k.step.blk h.be G.n45.symm, k.step.blk h.bz G8.n48.symm, k.step.Rt h.rd h.brd (by decide), k.step.Rt h.ra h.brd (by decide), k.step.below h.bel G.m4⟩
/-- behind a store into the round's variable -/
theorem impl_ReadEdit.It.put (h : impl_ReadEdit.It w0 W g2 g4 g5 g8 A n c at_ bad e0 e1 e2 vd D va B z) (G8 : impl_ReadEdit.G8 w0 g2 g4 g5 g8) (on : On g8 W V) (hz : V.heap[g8]? = some (.cells #[.int .i64 y.f0, .int .i64 y.f1.f0, .string y.f1.f1, .string y.f1.f2, .int .i64 y.f1.f3] 75 (0, 0))) : impl_ReadEdit.It w0 V g2 g4 g5 g8 A n c at_ bad e0 e1 e2 vd D va B y :=
  ⟨on.blk h.br G8.n28, on.blk h.brd G8.n48, on.blk h.be G8.n58, hz, on.Rt h.rd h.bz (by decide), on.R h.ra (fun _ hk => hk), on.below h.bel G8.m8⟩
end
section
variable {w0 W V : World} {g2 g4 g5 g8 : Nat} {A : Option Addr} {n c : Nat} {at_ : Int} {bad : Bool} {e0 e1 e2 : Int} {vd va va2 : Value} {D : List Int} {B B2 : List S75} {z : S75}
/-- behind an append to the adds -/
theorem impl_ReadEdit.It.grownA (h : impl_ReadEdit.It w0 W g2 g4 g5 g8 A n c at_ bad e0 e1 e2 vd D va B z) (hg : W.grownBy V va.ownBlock) : V.heap[g2]? = some (.cells #[.int .i64 0, .int .i64 0, .int .i64 0, .slice none 0 0, .slice none 0 0] 26 (0, 0)) ∧ V.heap[g4]? = some (.cells #[.slice A n c, .int .i64 at_, .bool bad] 80 (0, 0)) ∧ V.heap[g5]? = some (.cells #[.int .i64 e0, .int .i64 e1, .int .i64 e2, vd, va] 26 (0, 0)) ∧ Kd.R (Kd.int .i64) 3 V w0.heap.size (fun _ => True) vd D :=
  ⟨blk_grown h.br hg (Kd.R_ne h.ra h.br (by decide)), blk_grown h.brd hg (Kd.R_ne h.ra h.brd (by decide)), blk_grown h.be hg (Kd.R_ne h.ra h.be (by decide)), Kd.R_over h.rd h.ra (by decide) hg⟩
end
theorem impl_ReadEdit.ints1 (W : World) (base : Nat) (ok : Nat → Prop) (a : Int) : Reps ((Kd.int .i64).M W base ok) (Kd.int .i64).sz [a] [.int .i64 a] := Reps.one (show Kd.M (Kd.int .i64) _ _ _ a [.int .i64 a] from rfl) (Reps.none _ _)
def impl_ReadEdit.drops (k : Nat) (l : List Int) : Nat → Int → List Int → Int → Bool → Option (List Int × Int × Bool)
  | 0, _, _, _, _ => none
  | m + 1, q, acc, a, b => if (decide (q > 0) && !b) = true then (impl_ReadEdit.num k l a b).bind fun p => impl_ReadEdit.drops k l m (wrap64 (q - 1)) (acc ++ [p.1]) p.2.1 p.2.2 else some (acc, a, b)
def impl_ReadEdit.adds (k : Nat) (l : List Int) : Nat → Int → List S75 → Int → Bool → Option (List S75 × Int × Bool)
  | 0, _, _, _, _ => none
  | m + 1, q, acc, a, b => if (decide (q > 0) && !b) = true then (impl_ReadEdit.num k l a b).bind fun p1 => (impl_ReadEdit.num k l p1.2.1 p1.2.2).bind fun p2 => (impl_ReadEdit.num k l p2.2.1 p2.2.2).bind fun p3 => (impl_ReadEdit.num k l p3.2.1 p3.2.2).bind fun n4 => (impl_ReadEdit.tk l n4.2.1 n4.2.2 n4.1).bind fun p4 => (impl_ReadEdit.num k l p4.2.1 p4.2.2).bind fun n5 => (impl_ReadEdit.tk l n5.2.1 n5.2.2 n5.1).bind fun p5 => impl_ReadEdit.adds k l m (wrap64 (q - 1)) (acc ++ [⟨p1.1, ⟨p2.1, strOfNums p4.1, strOfNums p5.1, p3.1⟩⟩]) p5.2.1 p5.2.2 else some (acc, a, b)
def impl_ReadEdit.g (k : Nat) (l : List Int) (x1 x2 x3 : Int) (D : List Int) (B : List S75 × Int × Bool) : Option (Int × Int × Int × List Int × List S75 × Bool) :=
  if B.2.2 = true then some (0, 0, 0, [], [], false) else (impl_Edit_isGood.f k x1 x2 x3 D B.1).bind fun g => if g = true then (impl_editBytes.f k x1 x2 x3 D B.1).bind fun e => (bytes_Equal.f e l).bind fun q => if q = true then some (x1, x2, x3, D, B.1, true) else some (0, 0, 0, [], [], false) else some (0, 0, 0, [], [], false)
def impl_ReadEdit.f (k : Nat) (l0 : List Int) : Option (Int × Int × Int × List Int × List S75 × Bool) :=
  if l0.length ≤ 1099511627776 then (impl_ReadEdit.num k l0 0 false).bind fun p1 => (impl_ReadEdit.num k l0 p1.2.1 p1.2.2).bind fun p2 => (impl_ReadEdit.num k l0 p2.2.1 p2.2.2).bind fun p3 => (impl_ReadEdit.num k l0 p3.2.1 p3.2.2).bind fun q1 => (impl_ReadEdit.drops k l0 (l0.length + 2) q1.1 [] q1.2.1 q1.2.2).bind fun d => (impl_ReadEdit.num k l0 d.2.1 d.2.2).bind fun q2 => (impl_ReadEdit.adds k l0 (l0.length + 2) q2.1 [] q2.2.1 q2.2.2).bind fun a => impl_ReadEdit.g k l0 p1.1 p2.1 p3.1 d.1 a else none
theorem impl_ReadEdit.num_mono (k : Nat) (l : List Int) (a : Int) (b : Bool) : LeO (impl_ReadEdit.num k l a b) (impl_ReadEdit.num (k + 1) l a b) := LeO.bind (impl_ReadVar.mono _ _ _) (fun _ => LeO.refl _)
theorem impl_ReadEdit.drops_mono (k : Nat) (l : List Int) : ∀ (m : Nat) (q : Int) (acc : List Int) (a : Int) (b : Bool), LeO (impl_ReadEdit.drops k l m q acc a b) (impl_ReadEdit.drops (k + 1) l m q acc a b)
  | 0, _, _, _, _ => LeO.refl _
  | m + 1, q, acc, a, b => LeO.ite (LeO.bind (impl_ReadEdit.num_mono _ _ _ _) (fun _ => impl_ReadEdit.drops_mono k l m _ _ _ _)) (LeO.refl _)
theorem impl_ReadEdit.adds_mono (k : Nat) (l : List Int) : ∀ (m : Nat) (q : Int) (acc : List S75) (a : Int) (b : Bool), LeO (impl_ReadEdit.adds k l m q acc a b) (impl_ReadEdit.adds (k + 1) l m q acc a b)
  | 0, _, _, _, _ => LeO.refl _
  | m + 1, q, acc, a, b => LeO.ite (LeO.bind (impl_ReadEdit.num_mono _ _ _ _) (fun _ => LeO.bind (impl_ReadEdit.num_mono _ _ _ _) (fun _ => LeO.bind (impl_ReadEdit.num_mono _ _ _ _) (fun _ => LeO.bind (impl_ReadEdit.num_mono _ _ _ _) (fun _ => LeO.bind (LeO.refl _) (fun _ => LeO.bind (impl_ReadEdit.num_mono _ _ _ _) (fun _ => LeO.bind (LeO.refl _) (fun _ => impl_ReadEdit.adds_mono k l m _ _ _ _)))))))) (LeO.refl _)
theorem impl_ReadEdit.g_mono (k : Nat) (l : List Int) (x1 x2 x3 : Int) (D : List Int) (B : List S75 × Int × Bool) : LeO (impl_ReadEdit.g k l x1 x2 x3 D B) (impl_ReadEdit.g (k + 1) l x1 x2 x3 D B) := LeO.ite (LeO.refl _) (LeO.bind (impl_Edit_isGood.mono _ _ _ _ _ _) (fun _ => LeO.ite (LeO.bind (impl_editBytes.mono _ _ _ _ _ _) (fun _ => LeO.refl _)) (LeO.refl _)))
theorem impl_ReadEdit.mono : ∀ l0 k, LeO (impl_ReadEdit.f k l0) (impl_ReadEdit.f (k + 1) l0) := fun l0 k => LeO.ite (LeO.bind (impl_ReadEdit.num_mono _ _ _ _) (fun _ => LeO.bind (impl_ReadEdit.num_mono _ _ _ _) (fun _ => LeO.bind (impl_ReadEdit.num_mono _ _ _ _) (fun _ => LeO.bind (impl_ReadEdit.num_mono _ _ _ _) (fun _ => LeO.bind (impl_ReadEdit.drops_mono _ _ _ _ _ _ _) (fun _ => LeO.bind (impl_ReadEdit.num_mono _ _ _ _) (fun _ => LeO.bind (impl_ReadEdit.adds_mono _ _ _ _ _ _ _) (fun _ => impl_ReadEdit.g_mono _ _ _ _ _ _ _)))))))) (LeO.refl _)
set_option maxHeartbeats 8000000 in
set_option maxRecDepth 100000 in
theorem impl_ReadEdit.calls_ (k : Nat) (A0 : Option Addr) (c0 : Nat) (l0 : List Int) (r1 : Int) (r2 : Int) (r3 : Int) (r4 : List Int) (r5 : List S75) (r6 : Bool) (w : World) (hsz : l0.length ≤ 1099511627776) (hr0 : Kd.C (Kd.int .u8) w A0 l0.length l0) (hc0 : l0.length ≤ c0) (h : ((impl_ReadEdit.num k l0 0 false).bind fun p1 => (impl_ReadEdit.num k l0 p1.2.1 p1.2.2).bind fun p2 => (impl_ReadEdit.num k l0 p2.2.1 p2.2.2).bind fun p3 => (impl_ReadEdit.num k l0 p3.2.1 p3.2.2).bind fun q1 => (impl_ReadEdit.drops k l0 (l0.length + 2) q1.1 [] q1.2.1 q1.2.2).bind fun d => (impl_ReadEdit.num k l0 d.2.1 d.2.2).bind fun q2 => (impl_ReadEdit.adds k l0 (l0.length + 2) q2.1 [] q2.2.1 q2.2.2).bind fun a => impl_ReadEdit.g k l0 p1.1 p2.1 p3.1 d.1 a) = some (r1, r2, r3, r4, r5, r6)) :
    Calls Try.prog 9 #[.slice A0 l0.length c0] w fun e w' => ∃ v3_ v4_ : Value, e = .returned (.tuple #[.agg #[.int .i64 r1, .int .i64 r2, .int .i64 r3, v3_, v4_], .bool r6]) ∧ Kd.R (Kd.int .i64) 3 w' w.heap.size (fun _ => True) v3_ r4 ∧ Kd.R k75 75 w' w.heap.size (fun _ => True) v4_ r5 ∧ Below w.heap.size w w' := by
  have hu26 := Try.underlying26
  have huR := Try.underlying80
  have hu75 := Try.underlying75
  have SZ := Aside0.mk hsz
  clear hsz
  replace h := Option.bind_eq_some_iff.mp h
  obtain ⟨⟨x1, a1, b1⟩, hA1, h⟩ := h
  replace h := Option.bind_eq_some_iff.mp h
  obtain ⟨⟨x2, a2, b2⟩, hA2, h⟩ := h
  replace h := Option.bind_eq_some_iff.mp h
  obtain ⟨⟨x3, a3, b3⟩, hA3, h⟩ := h
  replace h := Option.bind_eq_some_iff.mp h
  obtain ⟨⟨q1, a4, b4⟩, hA4, h⟩ := h
  replace h := Option.bind_eq_some_iff.mp h
  obtain ⟨⟨D, a5, b5⟩, hA5, h⟩ := h
  replace h := Option.bind_eq_some_iff.mp h
  obtain ⟨⟨q2, a6, b6⟩, hA6, h⟩ := h
  replace h := Option.bind_eq_some_iff.mp h
  obtain ⟨B, hA7, h⟩ := h
  dsimp only at hA1 hA2 hA3 hA4 hA5 hA6 hA7 h
  have A1 := Aside0.mk hA1
  have A2 := Aside0.mk hA2
  have A3 := Aside0.mk hA3
  have A4 := Aside0.mk hA4
  have A5 := Aside0.mk hA5
  have A6 := Aside0.mk hA6
  have A7 := Aside0.mk hA7
  have H := Aside0.mk h
  have HR0 := Aside0.mk hr0
  have HC0 := Aside0.mk hc0
  have HB := Aside0.mk (Below.refl w.heap.size w)
  clear hA1 hA2 hA3 hA4 hA5 hA6 hA7 h hr0 hc0
  go_enter Try.func9, Try.ntmps9
  go_upto_block 0 with (first | ((with_reducible refine gate_dst (N := 2) rfl ?_); refine box_event ?hg (N := 2) ?hd (cs := #[.int .i64 0, .int .i64 0, .int .i64 0, .slice none 0 0, .slice none 0 0]) (t := 26) ?hr ?_; (case hd => rfl); (case hg => rfl); (case hr => first | (go_simp; done) | (go_simp; rfl)); intro g2 hg w2 hbox hb; have GE2 := Aside0.mk (show w.heap.size ≤ g2 from (by rw [hg]; exact below_size (by with_reducible repeat (first | exact HB.out | apply below_alloc | apply pw_below_drewN | apply below_drew1)))); have BR := Aside0.mk hbox; have B2 := Aside0.mk (below_step (by with_reducible repeat (first | exact HB.out | apply below_alloc | apply pw_below_drewN | apply below_drew1)) hb); clear HB; have HB := B2; clear B2 hb hbox hg) | ((with_reducible refine gate_dst (N := 11) rfl ?_); refine box_event ?hg (N := 11) ?hd (cs := #[.slice A0 l0.length c0, .int .i64 0, .bool false]) (t := 80) ?hr ?_; (case hd => rfl); (case hg => rfl); (case hr => first | (go_simp; done) | (go_simp; rfl)); intro g4 hg w4 hbox hb; have GE4 := Aside0.mk (show w.heap.size ≤ g4 from (by rw [hg]; exact below_size (by with_reducible repeat (first | exact HB.out | apply below_alloc | apply pw_below_drewN | apply below_drew1)))); have N24 := Aside0.mk (show g2 ≠ g4 from (by rw [hg]; exact Nat.ne_of_lt (blk_lt (by (with_reducible repeat (first | refine blk_drewN ?_ _ | refine blk_drew ?_)); exact BR.out)))); have BRD := Aside0.mk hbox; have BR4 := Aside0.mk (blk_below (by (with_reducible repeat (first | refine blk_drewN ?_ _ | refine blk_drew ?_)); exact BR.out) hb); have B4 := Aside0.mk (below_step (by with_reducible repeat (first | exact HB.out | apply below_alloc | apply pw_below_drewN | apply below_drew1)) hb); clear HB BR; have HB := B4; have BR := BR4; clear B4 BR4 hb hbox hg) | ((with_reducible refine gate_callee (f := 39) rfl ?_); refine goesL_ (some 13) rfl rfl Try.func39 (by kernel_rfl) rfl #[.pointer (some ⟨g4, 0, none⟩)] rfl (by (try simp only [List.map_toArray, List.map_cons, List.map_nil]); first | done | rfl) ?_; (with_reducible refine (impl_ReadEdit.num_calls k l0 0 false x1 a1 b1 A0 c0 g4 _ (Kd.C_below HR0.out (by with_reducible repeat (first | exact HB.out | apply below_alloc | apply pw_below_drewN | apply below_drew1))) HC0.out (by (with_reducible repeat (first | refine blk_drewN ?_ _ | refine blk_drew ?_)); exact BRD.out) A1.out).mono ?_); rintro e w9 ⟨rfl, h9⟩; refine ⟨_, rfl, ?_⟩; have R9 := Aside0.mk (h9.step.blk (by (with_reducible repeat (first | refine blk_drewN ?_ _ | refine blk_drew ?_)); exact BR.out) N24.out); have D9 := Aside0.mk h9.blk; have B9 := Aside0.mk (h9.step.below (by with_reducible repeat (first | exact HB.out | apply below_alloc | apply pw_below_drewN | apply below_drew1)) GE4.out); clear HB BR BRD h9; have HB := B9; have BR := R9; have BRD := D9; clear B9 R9 D9) | ((with_reducible refine gate_callee (f := 39) rfl ?_); refine goesL_ (some 15) rfl rfl Try.func39 (by kernel_rfl) rfl #[.pointer (some ⟨g4, 0, none⟩)] rfl (by (try simp only [List.map_toArray, List.map_cons, List.map_nil]); first | done | rfl) ?_; (with_reducible refine (impl_ReadEdit.num_calls k l0 a1 b1 x2 a2 b2 A0 c0 g4 _ (Kd.C_below HR0.out (by with_reducible repeat (first | exact HB.out | apply below_alloc | apply pw_below_drewN | apply below_drew1))) HC0.out (by (with_reducible repeat (first | refine blk_drewN ?_ _ | refine blk_drew ?_)); exact BRD.out) A2.out).mono ?_); rintro e w9 ⟨rfl, h9⟩; refine ⟨_, rfl, ?_⟩; have R9 := Aside0.mk (h9.step.blk (by (with_reducible repeat (first | refine blk_drewN ?_ _ | refine blk_drew ?_)); exact BR.out) N24.out); have D9 := Aside0.mk h9.blk; have B9 := Aside0.mk (h9.step.below (by with_reducible repeat (first | exact HB.out | apply below_alloc | apply pw_below_drewN | apply below_drew1)) GE4.out); clear HB BR BRD h9; have HB := B9; have BR := R9; have BRD := D9; clear B9 R9 D9) | ((with_reducible refine gate_callee (f := 39) rfl ?_); refine goesL_ (some 17) rfl rfl Try.func39 (by kernel_rfl) rfl #[.pointer (some ⟨g4, 0, none⟩)] rfl (by (try simp only [List.map_toArray, List.map_cons, List.map_nil]); first | done | rfl) ?_; (with_reducible refine (impl_ReadEdit.num_calls k l0 a2 b2 x3 a3 b3 A0 c0 g4 _ (Kd.C_below HR0.out (by with_reducible repeat (first | exact HB.out | apply below_alloc | apply pw_below_drewN | apply below_drew1))) HC0.out (by (with_reducible repeat (first | refine blk_drewN ?_ _ | refine blk_drew ?_)); exact BRD.out) A3.out).mono ?_); rintro e w9 ⟨rfl, h9⟩; refine ⟨_, rfl, ?_⟩; have R9 := Aside0.mk (h9.step.blk (by (with_reducible repeat (first | refine blk_drewN ?_ _ | refine blk_drew ?_)); exact BR.out) N24.out); have D9 := Aside0.mk h9.blk; have B9 := Aside0.mk (h9.step.below (by with_reducible repeat (first | exact HB.out | apply below_alloc | apply pw_below_drewN | apply below_drew1)) GE4.out); clear HB BR BRD h9; have HB := B9; have BR := R9; have BRD := D9; clear B9 R9 D9) | ((with_reducible refine gate_dst (N := 5) rfl ?_); refine box_event ?hg (N := 5) ?hd (cs := #[.int .i64 0, .int .i64 0, .int .i64 0, .slice none 0 0, .slice none 0 0]) (t := 26) ?hr ?_; (case hd => rfl); (case hg => rfl); (case hr => first | (go_simp; done) | (go_simp; rfl)); intro g5 hg w5 hbox hb; have GS := Aside0.mk (⟨GE2.out, GE4.out, by rw [hg]; exact below_size (by with_reducible repeat (first | exact HB.out | apply below_alloc | apply pw_below_drewN | apply below_drew1)), N24.out, by rw [hg]; exact Nat.ne_of_lt (blk_lt (by (with_reducible repeat (first | refine blk_drewN ?_ _ | refine blk_drew ?_)); exact BR.out)), by rw [hg]; exact Nat.ne_of_lt (blk_lt (by (with_reducible repeat (first | refine blk_drewN ?_ _ | refine blk_drew ?_)); exact BRD.out))⟩ : impl_ReadEdit.Gs w g2 g4 g5); have BX := Aside0.mk hbox; have R9 := Aside0.mk (blk_below (by (with_reducible repeat (first | refine blk_drewN ?_ _ | refine blk_drew ?_)); exact BR.out) hb); have D9 := Aside0.mk (blk_below (by (with_reducible repeat (first | refine blk_drewN ?_ _ | refine blk_drew ?_)); exact BRD.out) hb); have B9 := Aside0.mk (below_step (by with_reducible repeat (first | exact HB.out | apply below_alloc | apply pw_below_drewN | apply below_drew1)) hb); have hq := c5 hbox; have hf := f5 hbox; clear HB BR BRD GE2 GE4 N24; have HB := B9; have BR := R9; have BRD := D9; clear B9 R9 D9 hb hbox hg) | ((with_reducible refine gate_store (t := 26) (p := 5) rfl ?_); refine store_event (t := 26) (p := 5) (v := ?vo_9007) (w1 := setAll w5 g5 0 [.int .i64 x1, .int .i64 x2, .int .i64 x3, .slice none 0 0, .slice none 0 0]) ?hg ?ho ?hn ?hr ?_; (case ho => rfl); (case hg => rfl); (case hn => rfl); (case hr => first | (go_simp; done) | (go_simp; rfl)); intro w6 hw; have on_ : On g5 w5 w6 := (by rw [hw]; exact setAll_on _ _ _ _); have bk_ : w6.heap[g5]? = some (.cells #[.int .i64 x1, .int .i64 x2, .int .i64 x3, .slice none 0 0, .slice none 0 0] 26 (0, 0)) := (by rw [hw]; exact setAll_blk _ BX.out rfl); have S := Aside0.mk (⟨on_.blk BR.out GS.out.n25, on_.blk BRD.out GS.out.n45, bk_, Kd.R_nil _ _ _ _ _, Kd.R_nil _ _ _ _ _, on_.below HB.out GS.out.m5⟩ : impl_ReadEdit.St w w6 g2 g4 g5 A0 l0.length c0 a3 b3 x1 x2 x3 (.slice none 0 0) [] (.slice none 0 0) []); clear hw on_ bk_ BX HB BR BRD hq hf) | ((with_reducible refine gate_callee (f := 39) rfl ?_); refine goesL_ (some 20) rfl rfl Try.func39 (by kernel_rfl) rfl #[.pointer (some ⟨g4, 0, none⟩)] rfl (by (try simp only [List.map_toArray, List.map_cons, List.map_nil]); first | done | rfl) ?_; (with_reducible refine (impl_ReadEdit.num_calls k l0 a3 b3 q1 a4 b4 A0 c0 g4 _ (Kd.C_below HR0.out (impl_ReadEdit.St.bel (by with_reducible repeat (first | exact S.out | apply impl_ReadEdit.St.drewN | apply impl_ReadEdit.St.drew)))) HC0.out (impl_ReadEdit.St.brd (by with_reducible repeat (first | exact S.out | apply impl_ReadEdit.St.drewN | apply impl_ReadEdit.St.drew))) A4.out).mono ?_); rintro e w9 ⟨rfl, h9⟩; refine ⟨_, rfl, ?_⟩; have S9 := Aside0.mk (impl_ReadEdit.St.read (by with_reducible repeat (first | exact S.out | apply impl_ReadEdit.St.drewN | apply impl_ReadEdit.St.drew)) GS.out h9); clear S h9; have S := S9; clear S9))
  go_cut [] (fun wc => ∃ vd : Value, Aside0 (impl_ReadEdit.St w wc g2 g4 g5 A0 l0.length c0 a5 b5 x1 x2 x3 vd D (.slice none 0 0) []))
  case first =>
    go_wp2
    go_loopg [6] (l0.length + 2) (fun gg v6 w' => ∃ (m : Nat) (q : Int) (vd : Value) (acc : List Int) (a : Int) (b : Bool), m ≤ gg ∧ v6 = .int .i64 q ∧ Aside0 (acc.length + m = l0.length + 2) ∧ Aside0 (impl_ReadEdit.drops k l0 m q acc a b = some (D, a5, b5)) ∧ Aside0 (impl_ReadEdit.St w w' g2 g4 g5 A0 l0.length c0 a b x1 x2 x3 vd acc (.slice none 0 0) []))
    case atStart => exact ⟨l0.length + 2, q1, .slice none 0 0, [], a4, b4, Nat.le_refl _, rfl, ⟨by simp⟩, A5, ⟨by with_reducible repeat (first | exact S.out | apply impl_ReadEdit.St.drewN | apply impl_ReadEdit.St.drew)⟩⟩
    case round =>
      clear S A1 A2 A3 A4 A5
      obtain ⟨m, q, vd, acc, a, b, hg, rfl, LA, HD, S⟩ := hrel
      obtain ⟨m, rfl⟩ : ∃ m', m = m' + 1 := by
        cases m with
        | zero => have h := HD.out; simp [impl_ReadEdit.drops] at h
        | succ m => exact ⟨m, rfl⟩
      obtain ⟨Ad, cd, ed⟩ := Kd.R_slice S.out.rd
      subst ed
      have hq3 := c3 S.out.brd
      have hq5 := c5 S.out.be
      have hend : ∀ (D' : List Int) (a' : Int) (b' : Bool), some (acc, a, b) = some (D', a', b') → acc = D' ∧ a = a' ∧ b = b' := fun D' a' b' h => by injection h with h; injection h with h1 h; injection h with h2 h3; exact ⟨h1, h2, h3⟩
      by_cases hgo : q > 0 ∧ b = false
      · obtain ⟨hqp, rfl⟩ := hgo
        have hqb : decide (q > 0) = true := decide_eq_true hqp
        have h := HD.out
        simp only [impl_ReadEdit.drops] at h
        rw [if_pos (by rw [hqb]; rfl)] at h
        replace h := Option.bind_eq_some_iff.mp h
        obtain ⟨⟨x, ax, bx⟩, hv, h⟩ := h
        dsimp only at h
        have HV := Aside0.mk hv
        obtain ⟨y6, hy6⟩ : ∃ y : List Int, y = acc ++ [x] := ⟨_, rfl⟩
        rw [← hy6] at h
        have HN2 := Aside0.mk h
        have Ny6 := Aside0.mk hy6
        clear hend hqp hv h HD hy6
        go_wp2
        have S5 := Aside0.mk (impl_ReadEdit.St.drew S.out)
        refine start_ (n := 8) (S := fun w' => w'.cell? ⟨g5, 3, none⟩ = some (.slice Ad acc.length cd)) (ds := [7]) #[false, false, false, false, false, false, false, false] (by kernel_rfl) rfl rfl ((blk_cell S5.out.be 3).trans rfl) (fun hHeld => ?_)
        clear S hq3 hq5
        generalize wr.drew = w5 at S5 hHeld ⊢
        refine pure_ (i := 0) (N := some 32) (v := ?_) (a' := ?_) #[true, false, false, false, false, false, false, false] rfl rfl (by kernel_rfl) (fun _ _ _ h => h) (Or.inl ⟨by rfl, ?_⟩) ?_ ?_
        rotate_left
        · intro w'
          go_simp
          with_reducible rfl
        rotate_left
        · simp only [Act.put, List.setIfInBounds_toArray, List.set_cons_zero, List.set_cons_succ, i64_w, i32_w]
          rfl
        refine take_ (i := 1) (N := some 33) (v := ?_) (a' := ?_) #[true, true, false, false, false, false, false, false] rfl rfl (by kernel_rfl) (fun _ _ _ h => h) (Or.inl ⟨by rfl, ?_⟩) hHeld ?_ ?_
        rotate_left
        · rintro w' s0
          go_simp
          with_reducible rfl
        rotate_left
        · simp only [Act.put, List.setIfInBounds_toArray, List.set_cons_zero, List.set_cons_succ, i64_w, i32_w]
          rfl
        refine pure_ (i := 2) (N := some 34) (v := ?_) (a' := ?_) #[true, true, true, false, false, false, false, false] rfl rfl (by kernel_rfl) (fun _ _ _ h => h) (Or.inl ⟨by rfl, ?_⟩) ?_ ?_
        rotate_left
        · intro w'
          go_simp
          with_reducible rfl
        rotate_left
        · simp only [Act.put, List.setIfInBounds_toArray, List.set_cons_zero, List.set_cons_succ, i64_w, i32_w]
          rfl
        refine one_ (i := 3) (N := some 35) #[true, true, true, true, false, false, false, false] rfl rfl (by kernel_rfl) (by decide) (fun K hK => ?_)
        refine goes_ Try.func39 (by kernel_rfl) rfl #[.pointer (some ⟨g4, 0, none⟩)] (by rfl) rfl rfl (by (try simp only [List.map_toArray, List.map_cons, List.map_nil]); first | done | rfl) ?_
        with_reducible refine (impl_ReadEdit.num_calls k l0 a false x ax bx A0 c0 g4 _ (Kd.C_below HR0.out S5.out.bel) HC0.out S5.out.brd HV.out).mono ?_
        rintro e w6 ⟨rfl, h9⟩
        refine ⟨_, rfl, ?_⟩
        have S6 := Aside0.mk (impl_ReadEdit.St.read S5.out GS.out h9)
        clear h9 S5
        refine hK.out _ _ ((blk_cell S6.out.be 3).trans rfl) (fun hHeld => ?_)
        clear hK K
        refine norm_ (a' := ?_) ?_ ?_
        rotate_left
        · show Act.put _ (some 35) _ = _
          simp only [Act.put, List.setIfInBounds_toArray, List.set_cons_zero, List.set_cons_succ, i64_w, i32_w]
          rfl
        refine one_ (i := 4) (N := some 36) #[true, true, true, true, true, false, false, false] rfl rfl (by kernel_rfl) (by decide) (fun K hK => ?_)
        refine Kd.R_lit_step (Kd.int .i64) _ 3 (by rfl) (N := 36) rfl (xs := [x]) (inner := [.int .i64 x]) (ok := fun _ => True) (okp := fun _ => True) ?hr7 (impl_ReadEdit.ints1 _ _ _ _) (fun _ hk => hk) trivial (Below.refl _ _) (Nat.le_refl _) (by simp) ?_
        (case hr7 => first | (go_simp; done) | (go_simp; rfl))
        intro v7 w7 ho7 hb7 hg7 hn7
        have S7 := Aside0.mk (impl_ReadEdit.St.below S6.out hb7)
        obtain ⟨A7, c7_, e7⟩ := Kd.R_slice ho7
        subst e7
        have HL7 := Aside0.mk ho7
        clear ho7 hb7 hg7 hn7 S6
        refine hK.out _ _ ((blk_cell S7.out.be 3).trans rfl) (fun hHeld => ?_)
        clear hK K
        refine norm_ (a' := ?_) ?_ ?_
        rotate_left
        · show Act.put _ (some 36) _ = _
          simp only [Act.put, List.setIfInBounds_toArray, List.set_cons_zero, List.set_cons_succ, i64_w, i32_w]
          rfl
        refine one_ (i := 5) (N := some 37) #[true, true, true, true, true, true, false, false] rfl rfl (by kernel_rfl) (by decide) (fun K hK => ?_)
        refine Kd.R_append_rows_step (Kd.int .i64) (w0 := w) w.heap.size (by rfl) (.tmp 33) (.tmp 36) 23 3 (.int .i64 0) 8 rfl Try.underlying23 info3 rfl (by decide) (by omega) (.slice Ad acc.length cd) acc [x] _ _ _ (fun _ => True) (fun _ => False) rfl rfl ?aO ?aR (fun _ _ h => h) (fun _ h => h.elim) ?aF ?aB ?aS ?aL ?_
        (case aR => exact (Kd.R_reads' HL7.out).2.2)
        (case aB => exact S7.out.bel)
        (case aF => exact (fun _ _ => trivial))
        (case aO => exact S7.out.rd)
        (case aS => exact below_size S7.out.bel)
        (case aL => have := LA.out; have := SZ.out; simp only [List.length_cons, List.length_nil]; omega)
        intro v8 w8 ho8 hb8 hg8 hat8
        rw [← Ny6.out] at ho8
        obtain ⟨z1, z2, z3, z4⟩ := impl_ReadEdit.St.grownD S7.out hg8 hb8 ho8
        obtain ⟨A8, c8_, e8⟩ := Kd.R_slice ho8
        subst e8
        have hc8 : w8.cell? ⟨g5, 3, none⟩ = some (.slice Ad acc.length cd) := (blk_cell z3 3).trans rfl
        have hf8 : w8.frozen? ⟨g5, 3, none⟩ = false := blk_frozen z3 3
        have on9 := (On.refl g5 w8).set 3 (.slice A8 y6.length c8_)
        have S9 := Aside0.mk (⟨on9.blk z1 GS.out.n25, on9.blk z2 GS.out.n45, blk_put z3 3 _ rfl, on9.Rt ho8 z3 (by decide), on9.Rt z4 z3 (by decide), on9.below hb8 GS.out.m5⟩ : impl_ReadEdit.St w (w8.setCell ⟨g5, 3, none⟩ (.slice A8 y6.length c8_)) g2 g4 g5 A0 l0.length c0 ax bx x1 x2 x3 (.slice A8 y6.length c8_) y6 (.slice none 0 0) [])
        clear ho8 hb8 hg8 hat8 z1 z2 z3 z4 on9 S7 HL7
        refine hK.out _ _ hc8 (fun hHeld => ?_)
        clear hK K
        refine norm_ (a' := ?_) ?_ ?_
        rotate_left
        · show Act.put _ (some 37) _ = _
          simp only [Act.put, List.setIfInBounds_toArray, List.set_cons_zero, List.set_cons_succ, i64_w, i32_w]
          rfl
        refine pure_ (i := 6) (N := some 38) (v := ?_) (a' := ?_) #[true, true, true, true, true, true, true, false] rfl rfl (by kernel_rfl) (fun _ _ _ h => h) (Or.inl ⟨by rfl, ?_⟩) ?_ ?_
        rotate_left
        · intro w'
          go_simp
          with_reducible rfl
        rotate_left
        · simp only [Act.put, List.setIfInBounds_toArray, List.set_cons_zero, List.set_cons_succ, i64_w, i32_w]
          rfl
        refine last_ (i := 7) (N := none) #[true, true, true, true, true, true, true, true] rfl rfl (by kernel_rfl) (by decide) (fun K hK => ?_)
        refine skip_ (w1 := ?_) (by rfl) rfl ?_ ?_
        rotate_left
        · go_simp
          rfl
        refine hK.out _ _ ?_
        clear hK K
        refine done_ (by kernel_rfl) ?_
        clear hHeld hc8 hf8
        go_wp2
        go_roundg m
        case measure => omega
        case rel => exact ⟨m, _, _, y6, ax, bx, by omega, rfl, ⟨by have := LA.out; rw [Ny6.out, List.length_append]; simp; omega⟩, HN2, ⟨by with_reducible repeat (first | exact S9.out | apply impl_ReadEdit.St.drewN | apply impl_ReadEdit.St.drew)⟩⟩
      · have hx : some (acc, a, b) = some (D, a5, b5) := by
          have h := HD.out
          simp only [impl_ReadEdit.drops] at h
          rw [if_neg (by
            intro h2
            simp only [Bool.and_eq_true, decide_eq_true_eq, Bool.not_eq_true'] at h2
            exact hgo ⟨h2.1, h2.2⟩)] at h
          exact h
        obtain ⟨rfl, rfl, rfl⟩ := hend _ _ _ hx
        clear hend hx HD
        cases hqp : decide (q > 0) with
        | false =>
          clear hgo
          go_wp2
          go_meet
          exact ⟨_, ⟨by with_reducible repeat (first | exact S.out | apply impl_ReadEdit.St.drewN | apply impl_ReadEdit.St.drew)⟩⟩
        | true =>
          cases b with
          | true =>
            clear hgo
            go_wp2
            go_meet
            exact ⟨_, ⟨by with_reducible repeat (first | exact S.out | apply impl_ReadEdit.St.drewN | apply impl_ReadEdit.St.drew)⟩⟩
          | false => exact absurd ⟨of_decide_eq_true hqp, rfl⟩ hgo
  case rest =>
    obtain ⟨vd, SC⟩ := hcut
    clear S A1 A2 A3 A4 A5
    go_upto_block 2 with (first | ((with_reducible refine gate_callee (f := 39) rfl ?_); refine goesL_ (some 40) rfl rfl Try.func39 (by kernel_rfl) rfl #[.pointer (some ⟨g4, 0, none⟩)] rfl (by (try simp only [List.map_toArray, List.map_cons, List.map_nil]); first | done | rfl) ?_; (with_reducible refine (impl_ReadEdit.num_calls k l0 a5 b5 q2 a6 b6 A0 c0 g4 _ (Kd.C_below HR0.out (impl_ReadEdit.St.bel (by with_reducible repeat (first | exact SC.out | apply impl_ReadEdit.St.drewN | apply impl_ReadEdit.St.drew)))) HC0.out (impl_ReadEdit.St.brd (by with_reducible repeat (first | exact SC.out | apply impl_ReadEdit.St.drewN | apply impl_ReadEdit.St.drew))) A6.out).mono ?_); rintro e w9 ⟨rfl, h9⟩; refine ⟨_, rfl, ?_⟩; have S9 := Aside0.mk (impl_ReadEdit.St.read (by with_reducible repeat (first | exact SC.out | apply impl_ReadEdit.St.drewN | apply impl_ReadEdit.St.drew)) GS.out h9); clear SC h9; have S := S9; clear S9))
    go_cut [] (fun wc => ∃ va : Value, Aside0 (impl_ReadEdit.St w wc g2 g4 g5 A0 l0.length c0 B.2.1 B.2.2 x1 x2 x3 vd D va B.1))
    case first =>
      go_wp2
      go_loopg [7] (l0.length + 2) (fun gg v7 w' => ∃ (m : Nat) (q : Int) (va : Value) (acc : List S75) (a : Int) (b : Bool), m ≤ gg ∧ v7 = .int .i64 q ∧ Aside0 (acc.length + m = l0.length + 2) ∧ Aside0 (impl_ReadEdit.adds k l0 m q acc a b = some B) ∧ Aside0 (impl_ReadEdit.St w w' g2 g4 g5 A0 l0.length c0 a b x1 x2 x3 vd D va acc))
      case atStart => exact ⟨l0.length + 2, q2, .slice none 0 0, [], a6, b6, Nat.le_refl _, rfl, ⟨by simp⟩, A7, ⟨by with_reducible repeat (first | exact S.out | apply impl_ReadEdit.St.drewN | apply impl_ReadEdit.St.drew)⟩⟩
      case round =>
        clear S A6 A7
        obtain ⟨m, q, va, acc, a, b, hg, rfl, LA, HD, S⟩ := hrel
        obtain ⟨m, rfl⟩ : ∃ m', m = m' + 1 := by
          cases m with
          | zero => have h := HD.out; simp [impl_ReadEdit.adds] at h
          | succ m => exact ⟨m, rfl⟩
        obtain ⟨Ad, cd, ed⟩ := Kd.R_slice S.out.ra
        subst ed
        have hq3 := c3 S.out.brd
        have hq5 := c5 S.out.be
        by_cases hgo : q > 0 ∧ b = false
        · obtain ⟨hqp, rfl⟩ := hgo
          have hqb : decide (q > 0) = true := decide_eq_true hqp
          have h := HD.out
          simp only [impl_ReadEdit.adds] at h
          rw [if_pos (by rw [hqb]; rfl)] at h
          replace h := Option.bind_eq_some_iff.mp h
          obtain ⟨⟨y1, u1, v1⟩, hv1, h⟩ := h
          replace h := Option.bind_eq_some_iff.mp h
          obtain ⟨⟨y2, u2, v2⟩, hv2, h⟩ := h
          replace h := Option.bind_eq_some_iff.mp h
          obtain ⟨⟨y3, u3, v3⟩, hv3, h⟩ := h
          replace h := Option.bind_eq_some_iff.mp h
          obtain ⟨⟨n4, s4, t4⟩, hn4, h⟩ := h
          replace h := Option.bind_eq_some_iff.mp h
          obtain ⟨⟨M4, u4, v4⟩, hv4, h⟩ := h
          replace h := Option.bind_eq_some_iff.mp h
          obtain ⟨⟨n5, s5, t5⟩, hn5, h⟩ := h
          replace h := Option.bind_eq_some_iff.mp h
          obtain ⟨⟨M5, u5, v5⟩, hv5, h⟩ := h
          dsimp only at hv1 hv2 hv3 hn4 hv4 hn5 hv5 h
          have V1 := Aside0.mk hv1
          have V2 := Aside0.mk hv2
          have V3 := Aside0.mk hv3
          have W4 := Aside0.mk hn4
          have V4 := Aside0.mk hv4
          have W5 := Aside0.mk hn5
          have V5 := Aside0.mk hv5
          obtain ⟨Y, hY⟩ : ∃ y : List S75, y = acc ++ [⟨y1, ⟨y2, strOfNums M4, strOfNums M5, y3⟩⟩] := ⟨_, rfl⟩
          rw [← hY] at h
          have HN2 := Aside0.mk h
          have NY := Aside0.mk hY
          clear hqp hv1 hv2 hv3 hn4 hv4 hn5 hv5 h HD hY
          go_wp2_with (first | ((with_reducible refine gate_callee (f := 39) rfl ?_); refine goesL_ (some 53) rfl rfl Try.func39 (by kernel_rfl) rfl #[.pointer (some ⟨g4, 0, none⟩)] rfl (by (try simp only [List.map_toArray, List.map_cons, List.map_nil]); first | done | rfl) ?_; (with_reducible refine (impl_ReadEdit.num_calls k l0 a false y1 u1 v1 A0 c0 g4 _ (Kd.C_below HR0.out (impl_ReadEdit.St.bel (by with_reducible repeat (first | exact S.out | apply impl_ReadEdit.St.drewN | apply impl_ReadEdit.St.drew)))) HC0.out (impl_ReadEdit.St.brd (by with_reducible repeat (first | exact S.out | apply impl_ReadEdit.St.drewN | apply impl_ReadEdit.St.drew))) V1.out).mono ?_); rintro e w9 ⟨rfl, h9⟩; refine ⟨_, rfl, ?_⟩; have S9 := Aside0.mk (impl_ReadEdit.St.read (by with_reducible repeat (first | exact S.out | apply impl_ReadEdit.St.drewN | apply impl_ReadEdit.St.drew)) GS.out h9); clear S h9; have S := S9; clear S9) | ((with_reducible refine gate_callee (f := 39) rfl ?_); refine goesL_ (some 55) rfl rfl Try.func39 (by kernel_rfl) rfl #[.pointer (some ⟨g4, 0, none⟩)] rfl (by (try simp only [List.map_toArray, List.map_cons, List.map_nil]); first | done | rfl) ?_; (with_reducible refine (impl_ReadEdit.num_calls k l0 u1 v1 y2 u2 v2 A0 c0 g4 _ (Kd.C_below HR0.out (impl_ReadEdit.St.bel (by with_reducible repeat (first | exact S.out | apply impl_ReadEdit.St.drewN | apply impl_ReadEdit.St.drew)))) HC0.out (impl_ReadEdit.St.brd (by with_reducible repeat (first | exact S.out | apply impl_ReadEdit.St.drewN | apply impl_ReadEdit.St.drew))) V2.out).mono ?_); rintro e w9 ⟨rfl, h9⟩; refine ⟨_, rfl, ?_⟩; have S9 := Aside0.mk (impl_ReadEdit.St.read (by with_reducible repeat (first | exact S.out | apply impl_ReadEdit.St.drewN | apply impl_ReadEdit.St.drew)) GS.out h9); clear S h9; have S := S9; clear S9) | ((with_reducible refine gate_callee (f := 39) rfl ?_); refine goesL_ (some 57) rfl rfl Try.func39 (by kernel_rfl) rfl #[.pointer (some ⟨g4, 0, none⟩)] rfl (by (try simp only [List.map_toArray, List.map_cons, List.map_nil]); first | done | rfl) ?_; (with_reducible refine (impl_ReadEdit.num_calls k l0 u2 v2 y3 u3 v3 A0 c0 g4 _ (Kd.C_below HR0.out (impl_ReadEdit.St.bel (by with_reducible repeat (first | exact S.out | apply impl_ReadEdit.St.drewN | apply impl_ReadEdit.St.drew)))) HC0.out (impl_ReadEdit.St.brd (by with_reducible repeat (first | exact S.out | apply impl_ReadEdit.St.drewN | apply impl_ReadEdit.St.drew))) V3.out).mono ?_); rintro e w9 ⟨rfl, h9⟩; refine ⟨_, rfl, ?_⟩; have S9 := Aside0.mk (impl_ReadEdit.St.read (by with_reducible repeat (first | exact S.out | apply impl_ReadEdit.St.drewN | apply impl_ReadEdit.St.drew)) GS.out h9); clear S h9; have S := S9; clear S9) | ((with_reducible refine gate_dst (N := 8) rfl ?_); refine box_event ?hg (N := 8) ?hd (cs := #[.int .i64 0, .int .i64 0, .string ⟨#[]⟩, .string ⟨#[]⟩, .int .i64 0]) (t := 75) ?hr ?_; (case hd => rfl); (case hg => rfl); (case hr => first | (go_simp; done) | (go_simp; rfl)); intro g8 hg w5 hbox hb; have G8 := Aside0.mk (⟨by rw [hg]; exact below_size (impl_ReadEdit.St.bel (by with_reducible repeat (first | exact S.out | apply impl_ReadEdit.St.drewN | apply impl_ReadEdit.St.drew))), by rw [hg]; exact Nat.ne_of_lt (blk_lt (impl_ReadEdit.St.br (by with_reducible repeat (first | exact S.out | apply impl_ReadEdit.St.drewN | apply impl_ReadEdit.St.drew)))), by rw [hg]; exact Nat.ne_of_lt (blk_lt (impl_ReadEdit.St.brd (by with_reducible repeat (first | exact S.out | apply impl_ReadEdit.St.drewN | apply impl_ReadEdit.St.drew)))), by rw [hg]; exact Nat.ne_of_lt (blk_lt (impl_ReadEdit.St.be (by with_reducible repeat (first | exact S.out | apply impl_ReadEdit.St.drewN | apply impl_ReadEdit.St.drew))))⟩ : impl_ReadEdit.G8 w g2 g4 g5 g8); have I := Aside0.mk ((by have S9 := impl_ReadEdit.St.below (by with_reducible repeat (first | exact S.out | apply impl_ReadEdit.St.drewN | apply impl_ReadEdit.St.drew)) hb; exact ⟨S9.br, S9.brd, S9.be, hbox, S9.rd, Kd.R_mono (Kd.R_below (Kd.R_elderB (impl_ReadEdit.St.ra (by with_reducible repeat (first | exact S.out | apply impl_ReadEdit.St.drewN | apply impl_ReadEdit.St.drew))) g8 (Nat.le_of_eq hg.symm)) hb) (fun _ hk => hk.2), S9.bel⟩) : impl_ReadEdit.It w w5 g2 g4 g5 g8 A0 l0.length c0 u3 v3 x1 x2 x3 vd D (.slice Ad acc.length cd) acc ⟨0, ⟨0, ⟨#[]⟩, ⟨#[]⟩, 0⟩⟩); have hz5 := c5 hbox; have hf5 := f5 hbox; clear S hg hbox hb) | ((with_reducible refine gate_store (t := 75) (p := 8) rfl ?_); refine store_event (t := 75) (p := 8) (v := ?vo_9008) (w1 := setAll w5 g8 0 [.int .i64 y1, .int .i64 y2, .string ⟨#[]⟩, .string ⟨#[]⟩, .int .i64 y3]) ?hg ?ho ?hn ?hr ?_; (case ho => rfl); (case hg => rfl); (case hn => rfl); (case hr => first | (go_simp; done) | (go_simp; rfl)); intro w6 hw; have I9 := Aside0.mk ((by rw [hw]; exact impl_ReadEdit.It.put (y := ⟨y1, ⟨y2, ⟨#[]⟩, ⟨#[]⟩, y3⟩⟩) I.out G8.out (setAll_on _ _ _ _) (setAll_blk _ I.out.bz rfl)) : impl_ReadEdit.It w w6 g2 g4 g5 g8 A0 l0.length c0 _ _ x1 x2 x3 vd D (.slice Ad acc.length cd) acc ⟨y1, ⟨y2, ⟨#[]⟩, ⟨#[]⟩, y3⟩⟩); clear hw I hz5 hf5; have I := I9; clear I9) | ((with_reducible refine gate_callee (f := 39) rfl ?_); refine goesL_ (some 62) rfl rfl Try.func39 (by kernel_rfl) rfl #[.pointer (some ⟨g4, 0, none⟩)] rfl (by (try simp only [List.map_toArray, List.map_cons, List.map_nil]); first | done | rfl) ?_; (with_reducible refine (impl_ReadEdit.num_calls k l0 u3 v3 n4 s4 t4 A0 c0 g4 _ (Kd.C_below HR0.out (impl_ReadEdit.It.bel (by with_reducible repeat (first | exact I.out | apply impl_ReadEdit.It.drewN | apply impl_ReadEdit.It.drew)))) HC0.out (impl_ReadEdit.It.brd (by with_reducible repeat (first | exact I.out | apply impl_ReadEdit.It.drewN | apply impl_ReadEdit.It.drew))) W4.out).mono ?_); rintro e w9 ⟨rfl, h9⟩; refine ⟨_, rfl, ?_⟩; have I9 := Aside0.mk (impl_ReadEdit.It.read (by with_reducible repeat (first | exact I.out | apply impl_ReadEdit.It.drewN | apply impl_ReadEdit.It.drew)) GS.out G8.out h9); clear I h9; have I := I9; clear I9) | ((with_reducible refine gate_callee (f := 40) rfl ?_); refine goesL_ (some 63) rfl rfl Try.func40 (by kernel_rfl) rfl #[.pointer (some ⟨g4, 0, none⟩), .int .i64 n4] rfl (by (try simp only [List.map_toArray, List.map_cons, List.map_nil]); first | done | rfl) ?_; (with_reducible refine (impl_ReadEdit.take_calls k l0 s4 t4 n4 M4 u4 v4 A0 c0 g4 _ (fun V hV => Kd.C_below HR0.out (hV.below (impl_ReadEdit.It.bel (by with_reducible repeat (first | exact I.out | apply impl_ReadEdit.It.drewN | apply impl_ReadEdit.It.drew))) GS.out.m4)) HC0.out (impl_ReadEdit.It.brd (by with_reducible repeat (first | exact I.out | apply impl_ReadEdit.It.drewN | apply impl_ReadEdit.It.drew))) V4.out).mono ?_); rintro e w9 ⟨At, ct, rfl, hcut, h9⟩; refine ⟨_, rfl, ?_⟩; have hcv := Kd.C_string Try.underlying22 Try.underlying5 Try.underlying9 (c := ct) (hcut w9 h9.step); have I9 := Aside0.mk (impl_ReadEdit.It.read (by with_reducible repeat (first | exact I.out | apply impl_ReadEdit.It.drewN | apply impl_ReadEdit.It.drew)) GS.out G8.out h9); clear I h9 hcut; have I := I9; clear I9; have hz5 := c5 I.out.bz; have hf5 := f5 I.out.bz) | ((with_reducible refine gate_store (t := 9) (p := 66) rfl ?_); refine store_event (t := 9) (p := 66) (v := ?vo_9009) (w1 := w9.setCell ⟨g8, 2, none⟩ (.string (strOfNums M4))) ?hg ?ho ?hn ?hr ?_; (case ho => rfl); (case hg => rfl); (case hn => rfl); (case hr => first | (go_simp; done) | (go_simp; rfl)); intro w13 hw; have I9 := Aside0.mk ((by rw [hw]; exact impl_ReadEdit.It.put (y := ⟨y1, ⟨y2, strOfNums M4, ⟨#[]⟩, y3⟩⟩) I.out G8.out ((On.refl g8 _).set 2 _) (blk_put I.out.bz 2 _ rfl)) : impl_ReadEdit.It w w13 g2 g4 g5 g8 A0 l0.length c0 _ _ x1 x2 x3 vd D (.slice Ad acc.length cd) acc ⟨y1, ⟨y2, strOfNums M4, ⟨#[]⟩, y3⟩⟩); clear hw I hz5 hf5 hcv; have I := I9; clear I9) | ((with_reducible refine gate_callee (f := 39) rfl ?_); refine goesL_ (some 69) rfl rfl Try.func39 (by kernel_rfl) rfl #[.pointer (some ⟨g4, 0, none⟩)] rfl (by (try simp only [List.map_toArray, List.map_cons, List.map_nil]); first | done | rfl) ?_; (with_reducible refine (impl_ReadEdit.num_calls k l0 u4 v4 n5 s5 t5 A0 c0 g4 _ (Kd.C_below HR0.out (impl_ReadEdit.It.bel (by with_reducible repeat (first | exact I.out | apply impl_ReadEdit.It.drewN | apply impl_ReadEdit.It.drew)))) HC0.out (impl_ReadEdit.It.brd (by with_reducible repeat (first | exact I.out | apply impl_ReadEdit.It.drewN | apply impl_ReadEdit.It.drew))) W5.out).mono ?_); rintro e w9 ⟨rfl, h9⟩; refine ⟨_, rfl, ?_⟩; have I9 := Aside0.mk (impl_ReadEdit.It.read (by with_reducible repeat (first | exact I.out | apply impl_ReadEdit.It.drewN | apply impl_ReadEdit.It.drew)) GS.out G8.out h9); clear I h9; have I := I9; clear I9) | ((with_reducible refine gate_callee (f := 40) rfl ?_); refine goesL_ (some 70) rfl rfl Try.func40 (by kernel_rfl) rfl #[.pointer (some ⟨g4, 0, none⟩), .int .i64 n5] rfl (by (try simp only [List.map_toArray, List.map_cons, List.map_nil]); first | done | rfl) ?_; (with_reducible refine (impl_ReadEdit.take_calls k l0 s5 t5 n5 M5 u5 v5 A0 c0 g4 _ (fun V hV => Kd.C_below HR0.out (hV.below (impl_ReadEdit.It.bel (by with_reducible repeat (first | exact I.out | apply impl_ReadEdit.It.drewN | apply impl_ReadEdit.It.drew))) GS.out.m4)) HC0.out (impl_ReadEdit.It.brd (by with_reducible repeat (first | exact I.out | apply impl_ReadEdit.It.drewN | apply impl_ReadEdit.It.drew))) V5.out).mono ?_); rintro e w9 ⟨At, ct, rfl, hcut, h9⟩; refine ⟨_, rfl, ?_⟩; have hcv := Kd.C_string Try.underlying22 Try.underlying5 Try.underlying9 (c := ct) (hcut w9 h9.step); have I9 := Aside0.mk (impl_ReadEdit.It.read (by with_reducible repeat (first | exact I.out | apply impl_ReadEdit.It.drewN | apply impl_ReadEdit.It.drew)) GS.out G8.out h9); clear I h9 hcut; have I := I9; clear I9; have hz5 := c5 I.out.bz; have hf5 := f5 I.out.bz) | ((with_reducible refine gate_store (t := 9) (p := 73) rfl ?_); refine store_event (t := 9) (p := 73) (v := ?vo_9010) (w1 := w9.setCell ⟨g8, 3, none⟩ (.string (strOfNums M5))) ?hg ?ho ?hn ?hr ?_; (case ho => rfl); (case hg => rfl); (case hn => rfl); (case hr => first | (go_simp; done) | (go_simp; rfl)); intro w14 hw; have I9 := Aside0.mk ((by rw [hw]; exact impl_ReadEdit.It.put (y := ⟨y1, ⟨y2, strOfNums M4, strOfNums M5, y3⟩⟩) I.out G8.out ((On.refl g8 _).set 3 _) (blk_put I.out.bz 3 _ rfl)) : impl_ReadEdit.It w w14 g2 g4 g5 g8 A0 l0.length c0 _ _ x1 x2 x3 vd D (.slice Ad acc.length cd) acc ⟨y1, ⟨y2, strOfNums M4, strOfNums M5, y3⟩⟩); clear hw I hz5 hf5 hcv; have I := I9; clear I9; have hg5 := c5 I.out.be; have hz5 := c5 I.out.bz) | ((with_reducible refine gate_builtin (b := .append) (xs := #[.tmp 75, .tmp 77]) rfl ?_); at_builtin; refine Kd.R_append k75 (w0 := w) w.heap.size rfl (.tmp 75) (.tmp 77) 24 75 (.agg #[.int .i64 0, .int .i64 0, .string ⟨#[]⟩, .string ⟨#[]⟩, .int .i64 0]) 56 rfl Try.underlying24 info75 rfl (by decide) (by omega) (.slice Ad acc.length cd) acc ⟨y1, ⟨y2, strOfNums M4, strOfNums M5, y3⟩⟩ [.int .i64 y1, .int .i64 y2, .string (strOfNums M4), .string (strOfNums M5), .int .i64 y3] (fun _ => True) (fun _ => False) rfl rfl ?aP (fun _ hk => hk.elim) ?aF ?aO ?aB ?aS ?aL ?_; (case aP => exact k75_mkM _ _ _ ⟨y1, ⟨y2, strOfNums M4, strOfNums M5, y3⟩⟩); (case aB => exact impl_ReadEdit.It.bel (by with_reducible repeat (first | exact I.out | apply impl_ReadEdit.It.drewN | apply impl_ReadEdit.It.drew))); (case aF => exact (fun _ _ => trivial)); (case aO => exact Kd.R_mono (impl_ReadEdit.It.ra (by with_reducible repeat (first | exact I.out | apply impl_ReadEdit.It.drewN | apply impl_ReadEdit.It.drew))) (fun _ _ => trivial)); (case aS => exact below_size (impl_ReadEdit.It.bel (by with_reducible repeat (first | exact I.out | apply impl_ReadEdit.It.drewN | apply impl_ReadEdit.It.drew)))); (case aL => have := LA.out; have := SZ.out; omega); intro v15 w15 ho hb hg_ hat; rw [← NY.out] at ho; obtain ⟨z1, z2, z3, z4⟩ := impl_ReadEdit.It.grownA (by with_reducible repeat (first | exact I.out | apply impl_ReadEdit.It.drewN | apply impl_ReadEdit.It.drew)) hg_; obtain ⟨A15, c15, e15⟩ := Kd.R_slice ho; subst e15; have on15 := (On.refl g5 w15).set 4 (.slice A15 Y.length c15); have S9 := Aside0.mk (⟨on15.blk z1 GS.out.n25, on15.blk z2 GS.out.n45, blk_put z3 4 _ rfl, on15.Rt z4 z3 (by decide), on15.Rt ho z3 (by decide), on15.below hb GS.out.m5⟩ : impl_ReadEdit.St w (w15.setCell ⟨g5, 4, none⟩ (.slice A15 Y.length c15)) g2 g4 g5 A0 l0.length c0 u5 v5 x1 x2 x3 vd D (.slice A15 Y.length c15) Y); have hc15 : w15.cell? ⟨g5, 4, none⟩ = some (.slice Ad acc.length cd) := (blk_cell z3 4).trans rfl; have hf15 : w15.frozen? ⟨g5, 4, none⟩ = false := blk_frozen z3 4; clear ho hb hg_ hat z1 z2 z3 z4 on15 I hz5 hg5))
          go_roundg m
          case measure => omega
          case rel => exact ⟨m, _, _, Y, u5, v5, by omega, rfl, ⟨by have := LA.out; rw [NY.out, List.length_append]; simp; omega⟩, HN2, ⟨by with_reducible repeat (first | exact S9.out | apply impl_ReadEdit.St.drewN | apply impl_ReadEdit.St.drew)⟩⟩
        · have hx : some (acc, a, b) = some B := by
            have h := HD.out
            simp only [impl_ReadEdit.adds] at h
            rw [if_neg (by
              intro h2
              simp only [Bool.and_eq_true, decide_eq_true_eq, Bool.not_eq_true'] at h2
              exact hgo ⟨h2.1, h2.2⟩)] at h
            exact h
          obtain rfl := Option.some.inj hx
          clear hx HD
          cases hqp : decide (q > 0) with
          | false =>
            clear hgo
            go_wp2
            go_meet
            exact ⟨_, ⟨by with_reducible repeat (first | exact S.out | apply impl_ReadEdit.St.drewN | apply impl_ReadEdit.St.drew)⟩⟩
          | true =>
            cases b with
            | true =>
              clear hgo
              go_wp2
              go_meet
              exact ⟨_, ⟨by with_reducible repeat (first | exact S.out | apply impl_ReadEdit.St.drewN | apply impl_ReadEdit.St.drew)⟩⟩
            | false => exact absurd ⟨of_decide_eq_true hqp, rfl⟩ hgo
    case rest =>
      obtain ⟨va, SC⟩ := hcut
      clear S A6 A7
      have S := SC
      clear SC
      obtain ⟨Ad, cd, ed⟩ := Kd.R_slice S.out.rd
      subst ed
      obtain ⟨Ae, ce, ee⟩ := Kd.R_slice S.out.ra
      subst ee
      obtain ⟨B1, a7, b7⟩ := B
      have h := H.out
      unfold impl_ReadEdit.g at h
      dsimp only at h S
      have hr5 := c5 S.out.br
      have hf5 := f5 S.out.br
      have hq3 := c3 S.out.brd
      have hq5 := c5 S.out.be
      clear H
      cases b7 with
      | true =>
        simp only [if_true, Option.some.injEq, Prod.mk.injEq] at h
        obtain ⟨rfl, rfl, rfl, rfl, rfl, rfl⟩ := h
        go_wp2
        refine bodyPost_ret (results_ct rfl _ _ g2 26 #[.int .i64 0, .int .i64 0, .int .i64 0, .slice none 0 0, .slice none 0 0] (0, 0) _ rfl (by (with_reducible repeat (first | refine blk_drewN ?_ _ | refine blk_drew ?_)); exact p5 (show _ = some (Obj.cells #[.int .i64 0, .int .i64 0, .int .i64 0, .slice none 0 0, .slice none 0 0] 26 (0, 0)) from by (with_reducible repeat (first | refine blk_drewN ?_ _ | refine blk_drew ?_)); exact S.out.br)) Try.underlying26 rfl (by kernel_rfl)) rfl ?_
        exact ⟨_, _, rfl, Kd.R_nil _ _ _ _ _, Kd.R_nil _ _ _ _ _, by with_reducible repeat (first | exact S.out.bel | apply below_alloc | apply pw_below_drewN | apply below_drew1 | refine below_set ?_ GS.out.m2)⟩
      | false =>
        simp only [Bool.false_eq_true, if_false] at h
        replace h := Option.bind_eq_some_iff.mp h
        obtain ⟨gd, hg1, h⟩ := h
        have A1 := Aside0.mk hg1
        clear hg1
        cases gd with
        | false =>
          simp only [Bool.false_eq_true, if_false, Option.some.injEq, Prod.mk.injEq] at h
          obtain ⟨rfl, rfl, rfl, rfl, rfl, rfl⟩ := h
          go_wp2_with (first | (go_at_call 41; (with_reducible refine (impl_Edit_isGood.calls k x1 x2 x3 _ _ D _ _ B1 false _ ?side1 ?side2 ?side3 ?side4 A1.out).mono ?_); (case side1 => exact (Kd.R_reads' (impl_ReadEdit.St.rd (by with_reducible repeat (first | exact S.out | apply impl_ReadEdit.St.drewN | apply impl_ReadEdit.St.drew)))).2.2); (case side2 => exact (Kd.R_reads' S.out.rd).2.1); (case side3 => exact (Kd.R_reads' (impl_ReadEdit.St.ra (by with_reducible repeat (first | exact S.out | apply impl_ReadEdit.St.drewN | apply impl_ReadEdit.St.drew)))).2.2); (case side4 => exact (Kd.R_reads' S.out.ra).2.1); rintro e w10 ⟨rfl, hb⟩; have S10 := Aside0.mk (impl_ReadEdit.St.below (by with_reducible repeat (first | exact S.out | apply impl_ReadEdit.St.drewN | apply impl_ReadEdit.St.drew)) hb); clear S hr5 hf5 hq3 hq5 hb; have S := S10; clear S10; have hq5 := c5 S.out.be; have hr5 := c5 S.out.br; have hf5 := f5 S.out.br))
          refine bodyPost_ret (results_ct rfl _ _ g2 26 #[.int .i64 0, .int .i64 0, .int .i64 0, .slice none 0 0, .slice none 0 0] (0, 0) _ rfl (by (with_reducible repeat (first | refine blk_drewN ?_ _ | refine blk_drew ?_)); exact p5 (show _ = some (Obj.cells #[.int .i64 0, .int .i64 0, .int .i64 0, .slice none 0 0, .slice none 0 0] 26 (0, 0)) from by (with_reducible repeat (first | refine blk_drewN ?_ _ | refine blk_drew ?_)); exact S.out.br)) Try.underlying26 rfl (by kernel_rfl)) rfl ?_
          exact ⟨_, _, rfl, Kd.R_nil _ _ _ _ _, Kd.R_nil _ _ _ _ _, by with_reducible repeat (first | exact S.out.bel | apply below_alloc | apply pw_below_drewN | apply below_drew1 | refine below_set ?_ GS.out.m2)⟩
        | true =>
          rw [if_pos rfl] at h
          replace h := Option.bind_eq_some_iff.mp h
          obtain ⟨eb, he1, h⟩ := h
          replace h := Option.bind_eq_some_iff.mp h
          obtain ⟨qq, hq1, h⟩ := h
          have A2 := Aside0.mk he1
          have A3 := Aside0.mk hq1
          clear he1 hq1
          cases qq with
          | false =>
            simp only [Bool.false_eq_true, if_false, Option.some.injEq, Prod.mk.injEq] at h
            obtain ⟨rfl, rfl, rfl, rfl, rfl, rfl⟩ := h
            go_wp2_with (first | (go_at_call 41; (with_reducible refine (impl_Edit_isGood.calls k x1 x2 x3 _ _ D _ _ B1 true _ ?side1 ?side2 ?side3 ?side4 A1.out).mono ?_); (case side1 => exact (Kd.R_reads' (impl_ReadEdit.St.rd (by with_reducible repeat (first | exact S.out | apply impl_ReadEdit.St.drewN | apply impl_ReadEdit.St.drew)))).2.2); (case side2 => exact (Kd.R_reads' S.out.rd).2.1); (case side3 => exact (Kd.R_reads' (impl_ReadEdit.St.ra (by with_reducible repeat (first | exact S.out | apply impl_ReadEdit.St.drewN | apply impl_ReadEdit.St.drew)))).2.2); (case side4 => exact (Kd.R_reads' S.out.ra).2.1); rintro e w10 ⟨rfl, hb⟩; have S10 := Aside0.mk (impl_ReadEdit.St.below (by with_reducible repeat (first | exact S.out | apply impl_ReadEdit.St.drewN | apply impl_ReadEdit.St.drew)) hb); clear S hr5 hf5 hq3 hq5 hb; have S := S10; clear S10; have hq5 := c5 S.out.be; have hr5 := c5 S.out.br; have hf5 := f5 S.out.br) | (go_at_call 43; (with_reducible refine (impl_editBytes.calls k x1 x2 x3 _ _ D _ _ B1 eb _ ?side1 ?side2 ?side3 ?side4 A2.out).mono ?_); (case side1 => exact (Kd.R_reads' (impl_ReadEdit.St.rd (by with_reducible repeat (first | exact S.out | apply impl_ReadEdit.St.drewN | apply impl_ReadEdit.St.drew)))).2.2); (case side2 => exact (Kd.R_reads' S.out.rd).2.1); (case side3 => exact (Kd.R_reads' (impl_ReadEdit.St.ra (by with_reducible repeat (first | exact S.out | apply impl_ReadEdit.St.drewN | apply impl_ReadEdit.St.drew)))).2.2); (case side4 => exact (Kd.R_reads' S.out.ra).2.1); rintro e w11 ⟨veb, rfl, hve, hb⟩; obtain ⟨Av, cv, ev⟩ := Kd.R_slice hve; subst ev; have HE := Aside0.mk hve; have S10 := Aside0.mk (impl_ReadEdit.St.below (by with_reducible repeat (first | exact S.out | apply impl_ReadEdit.St.drewN | apply impl_ReadEdit.St.drew)) hb); clear S hr5 hf5 hq5 hb hve; have S := S10; clear S10; have hq5 := c5 S.out.be; have hr5 := c5 S.out.br; have hf5 := f5 S.out.br) | (go_at_call 42; (with_reducible refine (bytes_Equal.calls _ _ eb _ _ l0 false _ ?side1 ?side2 ?side3 ?side4 A3.out).mono ?_); (case side1 => exact (Kd.R_reads' (show Kd.R _ _ _ _ _ _ _ from by (with_reducible repeat (first | exact HE.out | apply Kd.R_drewN | apply Kd.R_drew)))).2.2); (case side2 => exact (Kd.R_reads' HE.out).2.1); (case side3 => exact Kd.C_below HR0.out (impl_ReadEdit.St.bel (by with_reducible repeat (first | exact S.out | apply impl_ReadEdit.St.drewN | apply impl_ReadEdit.St.drew)))); (case side4 => exact HC0.out); rintro e w12 ⟨rfl, hd⟩; have S10 := Aside0.mk (impl_ReadEdit.St.below (by with_reducible repeat (first | exact S.out | apply impl_ReadEdit.St.drewN | apply impl_ReadEdit.St.drew)) hd.below); clear S hr5 hf5 hq5 hd; have S := S10; clear S10; have hq5 := c5 S.out.be; have hr5 := c5 S.out.br; have hf5 := f5 S.out.br))
            refine bodyPost_ret (results_ct rfl _ _ g2 26 #[.int .i64 0, .int .i64 0, .int .i64 0, .slice none 0 0, .slice none 0 0] (0, 0) _ rfl (by (with_reducible repeat (first | refine blk_drewN ?_ _ | refine blk_drew ?_)); exact p5 (show _ = some (Obj.cells #[.int .i64 0, .int .i64 0, .int .i64 0, .slice none 0 0, .slice none 0 0] 26 (0, 0)) from by (with_reducible repeat (first | refine blk_drewN ?_ _ | refine blk_drew ?_)); exact S.out.br)) Try.underlying26 rfl (by kernel_rfl)) rfl ?_
            exact ⟨_, _, rfl, Kd.R_nil _ _ _ _ _, Kd.R_nil _ _ _ _ _, by with_reducible repeat (first | exact S.out.bel | apply below_alloc | apply pw_below_drewN | apply below_drew1 | refine below_set ?_ GS.out.m2)⟩
          | true =>
            simp only [if_true, Option.some.injEq, Prod.mk.injEq] at h
            obtain ⟨rfl, rfl, rfl, rfl, rfl, rfl⟩ := h
            go_wp2_with (first | (go_at_call 41; (with_reducible refine (impl_Edit_isGood.calls k x1 x2 x3 _ _ D _ _ B1 true _ ?side1 ?side2 ?side3 ?side4 A1.out).mono ?_); (case side1 => exact (Kd.R_reads' (impl_ReadEdit.St.rd (by with_reducible repeat (first | exact S.out | apply impl_ReadEdit.St.drewN | apply impl_ReadEdit.St.drew)))).2.2); (case side2 => exact (Kd.R_reads' S.out.rd).2.1); (case side3 => exact (Kd.R_reads' (impl_ReadEdit.St.ra (by with_reducible repeat (first | exact S.out | apply impl_ReadEdit.St.drewN | apply impl_ReadEdit.St.drew)))).2.2); (case side4 => exact (Kd.R_reads' S.out.ra).2.1); rintro e w10 ⟨rfl, hb⟩; have S10 := Aside0.mk (impl_ReadEdit.St.below (by with_reducible repeat (first | exact S.out | apply impl_ReadEdit.St.drewN | apply impl_ReadEdit.St.drew)) hb); clear S hr5 hf5 hq3 hq5 hb; have S := S10; clear S10; have hq5 := c5 S.out.be; have hr5 := c5 S.out.br; have hf5 := f5 S.out.br) | (go_at_call 43; (with_reducible refine (impl_editBytes.calls k x1 x2 x3 _ _ D _ _ B1 eb _ ?side1 ?side2 ?side3 ?side4 A2.out).mono ?_); (case side1 => exact (Kd.R_reads' (impl_ReadEdit.St.rd (by with_reducible repeat (first | exact S.out | apply impl_ReadEdit.St.drewN | apply impl_ReadEdit.St.drew)))).2.2); (case side2 => exact (Kd.R_reads' S.out.rd).2.1); (case side3 => exact (Kd.R_reads' (impl_ReadEdit.St.ra (by with_reducible repeat (first | exact S.out | apply impl_ReadEdit.St.drewN | apply impl_ReadEdit.St.drew)))).2.2); (case side4 => exact (Kd.R_reads' S.out.ra).2.1); rintro e w11 ⟨veb, rfl, hve, hb⟩; obtain ⟨Av, cv, ev⟩ := Kd.R_slice hve; subst ev; have HE := Aside0.mk hve; have S10 := Aside0.mk (impl_ReadEdit.St.below (by with_reducible repeat (first | exact S.out | apply impl_ReadEdit.St.drewN | apply impl_ReadEdit.St.drew)) hb); clear S hr5 hf5 hq5 hb hve; have S := S10; clear S10; have hq5 := c5 S.out.be; have hr5 := c5 S.out.br; have hf5 := f5 S.out.br) | (go_at_call 42; (with_reducible refine (bytes_Equal.calls _ _ eb _ _ l0 true _ ?side1 ?side2 ?side3 ?side4 A3.out).mono ?_); (case side1 => exact (Kd.R_reads' (show Kd.R _ _ _ _ _ _ _ from by (with_reducible repeat (first | exact HE.out | apply Kd.R_drewN | apply Kd.R_drew)))).2.2); (case side2 => exact (Kd.R_reads' HE.out).2.1); (case side3 => exact Kd.C_below HR0.out (impl_ReadEdit.St.bel (by with_reducible repeat (first | exact S.out | apply impl_ReadEdit.St.drewN | apply impl_ReadEdit.St.drew)))); (case side4 => exact HC0.out); rintro e w12 ⟨rfl, hd⟩; have S10 := Aside0.mk (impl_ReadEdit.St.below (by with_reducible repeat (first | exact S.out | apply impl_ReadEdit.St.drewN | apply impl_ReadEdit.St.drew)) hd.below); clear S hr5 hf5 hq5 hd; have S := S10; clear S10; have hq5 := c5 S.out.be; have hr5 := c5 S.out.br; have hf5 := f5 S.out.br))
            refine bodyPost_ret (results_ct rfl _ _ g2 26 #[.int .i64 x1, .int .i64 x2, .int .i64 x3, .slice Ad D.length cd, .slice Ae B1.length ce] (0, 0) _ rfl (by (with_reducible repeat (first | refine blk_drewN ?_ _ | refine blk_drew ?_)); exact p5 (show _ = some (Obj.cells #[.int .i64 0, .int .i64 0, .int .i64 0, .slice none 0 0, .slice none 0 0] 26 (0, 0)) from by (with_reducible repeat (first | refine blk_drewN ?_ _ | refine blk_drew ?_)); exact S.out.br)) Try.underlying26 rfl (by kernel_rfl)) rfl ?_
            have on8 := fun (W : World) => (((((On.refl g2 W).set 0 (.int .i64 x1)).set 1 (.int .i64 x2)).set 2 (.int .i64 x3)).set 3 (.slice Ad D.length cd)).set 4 (.slice Ae B1.length ce)
            exact ⟨_, _, rfl, by (with_reducible repeat (first | apply Kd.R_drewN | apply Kd.R_drew)); exact (on8 _).Rt (impl_ReadEdit.St.rd (by with_reducible repeat (first | exact S.out | apply impl_ReadEdit.St.drewN | apply impl_ReadEdit.St.drew))) (impl_ReadEdit.St.br (by with_reducible repeat (first | exact S.out | apply impl_ReadEdit.St.drewN | apply impl_ReadEdit.St.drew))) (by decide), by (with_reducible repeat (first | apply Kd.R_drewN | apply Kd.R_drew)); exact (on8 _).Rt (impl_ReadEdit.St.ra (by with_reducible repeat (first | exact S.out | apply impl_ReadEdit.St.drewN | apply impl_ReadEdit.St.drew))) (impl_ReadEdit.St.br (by with_reducible repeat (first | exact S.out | apply impl_ReadEdit.St.drewN | apply impl_ReadEdit.St.drew))) (by decide), by with_reducible repeat (first | exact S.out.bel | apply below_alloc | apply pw_below_drewN | apply below_drew1 | refine below_set ?_ GS.out.m2)⟩
theorem impl_ReadEdit.calls (k : Nat) (A0 : Option Addr) (c0 : Nat) (l0 : List Int) (r1 : Int) (r2 : Int) (r3 : Int) (r4 : List Int) (r5 : List S75) (r6 : Bool) (w : World) (hr0 : Kd.C (Kd.int .u8) w A0 l0.length l0) (hc0 : l0.length ≤ c0) (h : impl_ReadEdit.f k l0 = some (r1, r2, r3, r4, r5, r6)) :
    Calls Try.prog 9 #[.slice A0 l0.length c0] w fun e w' => ∃ v3_ v4_ : Value, e = .returned (.tuple #[.agg #[.int .i64 r1, .int .i64 r2, .int .i64 r3, v3_, v4_], .bool r6]) ∧ Kd.R (Kd.int .i64) 3 w' w.heap.size (fun _ => True) v3_ r4 ∧ Kd.R k75 75 w' w.heap.size (fun _ => True) v4_ r5 ∧ Below w.heap.size w w' := by
  unfold impl_ReadEdit.f at h
  by_cases hsz : l0.length ≤ 1099511627776
  · rw [if_pos hsz] at h
    exact impl_ReadEdit.calls_ k A0 c0 l0 r1 r2 r3 r4 r5 r6 w hsz hr0 hc0 h
  · rw [if_neg hsz] at h; cases h

end Go.Proofs.Ytadkabbeghpgcaa.PFnExactReadEdit
