-- Written for this claim by a program of this session: a scratch copy of the kit's print with patches of this session.
import Derived.Test.YtadkabbeghpgcaaPFnExactReadEditx0
import Derived.Test.YtadkabbeghpgcaaPFnExactReadEditx1
import Derived.Test.YtadkabbeghpgcaaPFnExactReadEditx2
namespace Go.Proofs.Ytadkabbeghpgcaa.PFnExactReadEdit
open Go.RowKit Go.Proofs.YtadkabbeghpgcaaW.PrintWords Go.Proofs.YtadkabbeghpgcaaW.PrintLast Go.Proofs.YtadkabbeghpgcaaW.PrintMore
attribute [local go_sem] max2_int min2_int max_two min_two max_three min_three max_four min_four hw_string_geq hw_string_gtr hw_string_leq   -- for this text's walks alone
set_option linter.unusedVariables false
set_option linter.unusedSimpArgs false

/-! ### spec_ReadEdit: function 7, by hand -/
def spec_ReadEdit.num (k : Nat) (l : List Int) (at_ : Int) (bad : Bool) : Option (Int × Int × Bool) := (spec_l1Var.f k l at_).bind fun p => some (if bad = true then (0, at_, true) else if (p.2 == 0) = true then (0, at_, true) else if (decide (p.1 > 2000000000)) = true then (0, at_, true) else (wrap64 p.1, p.2, false))
/-- V is behind W: new blocks, and the reader's block, which reads so -/
structure spec_ReadEdit.Rs (gr : Nat) (W : World) (A : Option Addr) (n c : Nat) (at_ : Int) (bad : Bool) (V : World) : Prop where
  step : Gr gr W V
  blk : V.heap[gr]? = some (.cells #[.slice A n c, .int .i64 at_, .bool bad] 70 (0, 0))
section
variable {gr : Nat} {W V U : World} {A : Option Addr} {n c : Nat} {at_ : Int} {bad : Bool}
theorem spec_ReadEdit.Rs.drew (h : spec_ReadEdit.Rs gr W A n c at_ bad V) : spec_ReadEdit.Rs gr W A n c at_ bad V.drew := ⟨h.step.drew, h.blk⟩
theorem spec_ReadEdit.Rs.drewN (h : spec_ReadEdit.Rs gr W A n c at_ bad V) (q : Nat) : spec_ReadEdit.Rs gr W A n c at_ bad (V.drewN q) := ⟨h.step.drewN q, h.blk⟩
theorem spec_ReadEdit.Rs.below (h : spec_ReadEdit.Rs gr W A n c at_ bad V) (hb : Below V.heap.size V U) : spec_ReadEdit.Rs gr W A n c at_ bad U := ⟨h.step.step hb, blk_below h.blk hb⟩
theorem spec_ReadEdit.Rs.set1 (h : spec_ReadEdit.Rs gr W A n c at_ bad V) (x : Int) : spec_ReadEdit.Rs gr W A n c x bad (V.setCell ⟨gr, 1, none⟩ (.int .i64 x)) := ⟨h.step.set 1 _, blk_put h.blk 1 _ rfl⟩
theorem spec_ReadEdit.Rs.set2 (h : spec_ReadEdit.Rs gr W A n c at_ bad V) (x : Bool) : spec_ReadEdit.Rs gr W A n c at_ x (V.setCell ⟨gr, 2, none⟩ (.bool x)) := ⟨h.step.set 2 _, blk_put h.blk 2 _ rfl⟩
end
set_option maxHeartbeats 8000000 in
set_option maxRecDepth 100000 in
/-- a number is read -/
theorem spec_ReadEdit.num_calls (k : Nat) (l : List Int) (at_ : Int) (bad : Bool) (n at2 : Int) (bad2 : Bool) (A : Option Addr) (c gr : Nat) (w : World) (hr : Kd.C (Kd.int .u8) w A l.length l) (hc : l.length ≤ c) (hb : w.heap[gr]? = some (.cells #[.slice A l.length c, .int .i64 at_, .bool bad] 70 (0, 0))) (h : spec_ReadEdit.num k l at_ bad = some (n, at2, bad2)) :
    Calls Try.prog 36 #[.pointer (some ⟨gr, 0, none⟩)] w fun e w' => e = .returned (.int .i64 n) ∧ spec_ReadEdit.Rs gr w A l.length c at2 bad2 w' := by
  have hu := Try.underlying70
  unfold spec_ReadEdit.num at h
  obtain ⟨⟨x, nx⟩, h1, h⟩ := Option.bind_eq_some_iff.mp h
  dsimp only at h
  have HV := Aside0.mk h1
  have HR := Aside0.mk hr
  have HC := Aside0.mk hc
  have R0 := Aside0.mk (⟨Gr.refl gr w, hb⟩ : spec_ReadEdit.Rs gr w A l.length c at_ bad w)
  have H := Aside0.mk (Option.some.inj h)
  clear h1 hr hc hb h
  go_enter Try.func36, Try.ntmps36
  go_wp2
  have R1 := Aside0.mk (R0.out.drew)
  have HR1 := Aside0.mk (Kd.C_drew HR.out)
  refine start_ (n := 14) (S := fun w' => w'.cell? ⟨gr, 0, none⟩ = some (.slice A l.length c) ∧ w'.cell? ⟨gr, 1, none⟩ = some (.int .i64 at_)) (ds := []) #[false, false, false, false, false, false, false, false, false, false, false, false, false, false] (by kernel_rfl) rfl rfl ⟨(blk_cell R1.out.blk 0).trans rfl, (blk_cell R1.out.blk 1).trans rfl⟩ (fun hHeld => ?_)
  clear R0 HR
  generalize hw1 : w.drew = w1 at R1 HR1 hHeld ⊢
  clear hw1
  refine pure_ (i := 0) (N := some 6) (v := ?_) (a' := ?_) #[true, false, false, false, false, false, false, false, false, false, false, false, false, false] rfl rfl (by kernel_rfl) (fun _ _ _ h => h) (Or.inl ⟨by rfl, ?_⟩) ?_ ?_
  rotate_left
  · intro w'
    go_simp
    with_reducible rfl
  rotate_left
  · simp only [Act.put, List.setIfInBounds_toArray, List.set_cons_zero, List.set_cons_succ, i64_w, i32_w]
    rfl
  refine pure_ (i := 1) (N := some 7) (v := ?_) (a' := ?_) #[true, true, false, false, false, false, false, false, false, false, false, false, false, false] rfl rfl (by kernel_rfl) (fun _ _ _ h => h) (Or.inl ⟨by rfl, ?_⟩) ?_ ?_
  rotate_left
  · intro w'
    go_simp
    with_reducible rfl
  rotate_left
  · simp only [Act.put, List.setIfInBounds_toArray, List.set_cons_zero, List.set_cons_succ, i64_w, i32_w]
    rfl
  refine pure_ (i := 2) (N := some 8) (v := ?_) (a' := ?_) #[true, true, true, false, false, false, false, false, false, false, false, false, false, false] rfl rfl (by kernel_rfl) (fun _ _ _ h => h) (Or.inl ⟨by rfl, ?_⟩) ?_ ?_
  rotate_left
  · intro w'
    go_simp
    with_reducible rfl
  rotate_left
  · simp only [Act.put, List.setIfInBounds_toArray, List.set_cons_zero, List.set_cons_succ, i64_w, i32_w]
    rfl
  refine take_ (i := 3) (N := some 9) (v := ?_) (a' := ?_) #[true, true, true, true, false, false, false, false, false, false, false, false, false, false] rfl rfl (by kernel_rfl) (fun _ _ _ h => h) (Or.inl ⟨by rfl, ?_⟩) hHeld ?_ ?_
  rotate_left
  · rintro w' ⟨s0, s1⟩
    go_simp
    with_reducible rfl
  rotate_left
  · simp only [Act.put, List.setIfInBounds_toArray, List.set_cons_zero, List.set_cons_succ, i64_w, i32_w]
    rfl
  refine pure_ (i := 4) (N := some 10) (v := ?_) (a' := ?_) #[true, true, true, true, true, false, false, false, false, false, false, false, false, false] rfl rfl (by kernel_rfl) (fun _ _ _ h => h) (Or.inl ⟨by rfl, ?_⟩) ?_ ?_
  rotate_left
  · intro w'
    go_simp
    with_reducible rfl
  rotate_left
  · simp only [Act.put, List.setIfInBounds_toArray, List.set_cons_zero, List.set_cons_succ, i64_w, i32_w]
    rfl
  refine pure_ (i := 5) (N := some 11) (v := ?_) (a' := ?_) #[true, true, true, true, true, true, false, false, false, false, false, false, false, false] rfl rfl (by kernel_rfl) (fun _ _ _ h => h) (Or.inl ⟨by rfl, ?_⟩) ?_ ?_
  rotate_left
  · intro w'
    go_simp
    with_reducible rfl
  rotate_left
  · simp only [Act.put, List.setIfInBounds_toArray, List.set_cons_zero, List.set_cons_succ, i64_w, i32_w]
    rfl
  refine pure_ (i := 6) (N := some 12) (v := ?_) (a' := ?_) #[true, true, true, true, true, true, true, false, false, false, false, false, false, false] rfl rfl (by kernel_rfl) (fun _ _ _ h => h) (Or.inl ⟨by rfl, ?_⟩) ?_ ?_
  rotate_left
  · intro w'
    go_simp
    with_reducible rfl
  rotate_left
  · simp only [Act.put, List.setIfInBounds_toArray, List.set_cons_zero, List.set_cons_succ, i64_w, i32_w]
    rfl
  refine take_ (i := 7) (N := some 13) (v := ?_) (a' := ?_) #[true, true, true, true, true, true, true, true, false, false, false, false, false, false] rfl rfl (by kernel_rfl) (fun _ _ _ h => h) (Or.inl ⟨by rfl, ?_⟩) hHeld ?_ ?_
  rotate_left
  · rintro w' ⟨s0, s1⟩
    go_simp
    with_reducible rfl
  rotate_left
  · simp only [Act.put, List.setIfInBounds_toArray, List.set_cons_zero, List.set_cons_succ, i64_w, i32_w]
    rfl
  refine one_ (i := 8) (N := some 14) #[true, true, true, true, true, true, true, true, true, false, false, false, false, false] rfl rfl (by kernel_rfl) (by decide) (fun K hK => ?_)
  refine goes_ Try.func68 (by kernel_rfl) rfl #[.slice A l.length c, .int .i64 at_] (by rfl) rfl rfl (by (try simp only [List.map_toArray, List.map_cons, List.map_nil]); first | done | rfl) ?_
  with_reducible refine (spec_l1Var.calls k A c l at_ x nx _ HR1.out HC.out HV.out).mono ?_
  rintro e w2 ⟨rfl, hd⟩
  refine ⟨_, rfl, ?_⟩
  have R2 := Aside0.mk (spec_ReadEdit.Rs.below R1.out hd.below)
  clear hd R1 HR1
  refine hK.out _ _ ⟨(blk_cell R2.out.blk 0).trans rfl, (blk_cell R2.out.blk 1).trans rfl⟩ (fun hHeld => ?_)
  clear hK K
  refine norm_ (a' := ?_) ?_ ?_
  rotate_left
  · show Act.put _ (some 14) _ = _
    simp only [Act.put, List.setIfInBounds_toArray, List.set_cons_zero, List.set_cons_succ, i64_w, i32_w]
    rfl
  refine pure_ (i := 9) (N := some 5) (v := ?_) (a' := ?_) #[true, true, true, true, true, true, true, true, true, true, false, false, false, false] rfl rfl (by kernel_rfl) (fun _ _ _ h => h) (Or.inl ⟨by rfl, ?_⟩) ?_ ?_
  rotate_left
  · intro w'
    go_simp
    with_reducible rfl
  rotate_left
  · simp only [Act.put, List.setIfInBounds_toArray, List.set_cons_zero, List.set_cons_succ, i64_w, i32_w]
    rfl
  refine pure_ (i := 10) (N := some 15) (v := ?_) (a' := ?_) #[true, true, true, true, true, true, true, true, true, true, true, false, false, false] rfl rfl (by kernel_rfl) (fun _ _ _ h => h) (Or.inl ⟨by rfl, ?_⟩) ?_ ?_
  rotate_left
  · intro w'
    go_simp
    with_reducible rfl
  rotate_left
  · simp only [Act.put, List.setIfInBounds_toArray, List.set_cons_zero, List.set_cons_succ, i64_w, i32_w]
    rfl
  refine pure_ (i := 11) (N := some 16) (v := ?_) (a' := ?_) #[true, true, true, true, true, true, true, true, true, true, true, true, false, false] rfl rfl (by kernel_rfl) (fun _ _ _ h => h) (Or.inl ⟨by rfl, ?_⟩) ?_ ?_
  rotate_left
  · intro w'
    go_simp
    with_reducible rfl
  rotate_left
  · simp only [Act.put, List.setIfInBounds_toArray, List.set_cons_zero, List.set_cons_succ, i64_w, i32_w]
    rfl
  refine pure_ (i := 12) (N := some 3) (v := ?_) (a' := ?_) #[true, true, true, true, true, true, true, true, true, true, true, true, true, false] rfl rfl (by kernel_rfl) (fun _ _ _ h => h) (Or.inl ⟨by rfl, ?_⟩) ?_ ?_
  rotate_left
  · intro w'
    go_simp
    with_reducible rfl
  rotate_left
  · simp only [Act.put, List.setIfInBounds_toArray, List.set_cons_zero, List.set_cons_succ, i64_w, i32_w]
    rfl
  refine pure_ (i := 13) (N := some 4) (v := ?_) (a' := ?_) #[true, true, true, true, true, true, true, true, true, true, true, true, true, true] rfl rfl (by kernel_rfl) (fun _ _ _ h => h) (Or.inl ⟨by rfl, ?_⟩) ?_ ?_
  rotate_left
  · intro w'
    go_simp
    with_reducible rfl
  rotate_left
  · simp only [Act.put, List.setIfInBounds_toArray, List.set_cons_zero, List.set_cons_succ, i64_w, i32_w]
    rfl
  refine done_ (by kernel_rfl) ?_
  clear hHeld
  have hx := c3 R2.out.blk
  have hf := f3 R2.out.blk
  cases bad with
  | true =>
    have H2 := H.out
    simp only [if_true, Prod.mk.injEq] at H2
    obtain ⟨rfl, rfl, rfl⟩ := H2
    clear H
    go_wp2
    go_ret
    exact ⟨rfl, by with_reducible repeat (first | exact R2.out | apply spec_ReadEdit.Rs.drewN | apply spec_ReadEdit.Rs.drew | apply spec_ReadEdit.Rs.set2)⟩
  | false =>
    cases h0 : (nx == 0) with
    | true =>
      have H2 := H.out
      simp only [h0, Bool.false_eq_true, if_true, if_false, Prod.mk.injEq] at H2
      obtain ⟨rfl, rfl, rfl⟩ := H2
      clear H
      go_wp2
      go_ret
      exact ⟨rfl, by with_reducible repeat (first | exact R2.out | apply spec_ReadEdit.Rs.drewN | apply spec_ReadEdit.Rs.drew | apply spec_ReadEdit.Rs.set2)⟩
    | false =>
      cases h1 : decide (x > 2000000000) with
      | true =>
        have H2 := H.out
        simp only [h0, h1, Bool.false_eq_true, if_true, if_false, Prod.mk.injEq] at H2
        obtain ⟨rfl, rfl, rfl⟩ := H2
        clear H
        go_wp2
        go_ret
        exact ⟨rfl, by with_reducible repeat (first | exact R2.out | apply spec_ReadEdit.Rs.drewN | apply spec_ReadEdit.Rs.drew | apply spec_ReadEdit.Rs.set2)⟩
      | false =>
        have H2 := H.out
        simp only [h0, h1, Bool.false_eq_true, if_false, Prod.mk.injEq] at H2
        obtain ⟨rfl, rfl, rfl⟩ := H2
        clear H
        go_wp2
        go_ret
        exact ⟨by first | rfl | (rw [i64_w]; done) | (simp only [i64_w]; done), by with_reducible repeat (first | exact R2.out | apply spec_ReadEdit.Rs.drewN | apply spec_ReadEdit.Rs.drew | apply spec_ReadEdit.Rs.set1)⟩
def spec_ReadEdit.txt (k : Nat) (l : List Int) (at_ : Int) (bad : Bool) : Option (ByteArray × Int × Bool) := (spec_ReadEdit.num k l at_ bad).bind fun p => if 0 ≤ p.1 ∧ 0 ≤ p.2.1 ∧ p.2.1 ≤ l.length ∧ (l.length : Int) ≤ 4611686018427387904 then some (if p.2.2 = true then (⟨#[]⟩, p.2.1, true) else if (decide (wrap64 ((l.length : Int) - p.2.1) < p.1)) = true then (⟨#[]⟩, p.2.1, true) else (strOfNums ((l.take (p.2.1 + p.1).toNat).drop p.2.1.toNat), p.2.1 + p.1, false)) else none
set_option maxHeartbeats 8000000 in
set_option maxRecDepth 100000 in
/-- a text is read -/
theorem spec_ReadEdit.txt_calls (k : Nat) (l : List Int) (at_ : Int) (bad : Bool) (s : ByteArray) (at2 : Int) (bad2 : Bool) (A : Option Addr) (c gr : Nat) (w : World) (hr : ∀ V, Gr gr w V → Kd.C (Kd.int .u8) V A l.length l) (hc : l.length ≤ c) (hb : w.heap[gr]? = some (.cells #[.slice A l.length c, .int .i64 at_, .bool bad] 70 (0, 0))) (h : spec_ReadEdit.txt k l at_ bad = some (s, at2, bad2)) :
    Calls Try.prog 37 #[.pointer (some ⟨gr, 0, none⟩)] w fun e w' => e = .returned (.string s) ∧ spec_ReadEdit.Rs gr w A l.length c at2 bad2 w' := by
  have hu := Try.underlying70
  unfold spec_ReadEdit.txt at h
  obtain ⟨⟨n, at1, bad1⟩, h1, h⟩ := Option.bind_eq_some_iff.mp h
  dsimp only at h
  by_cases hin : 0 ≤ n ∧ 0 ≤ at1 ∧ at1 ≤ l.length ∧ (l.length : Int) ≤ 4611686018427387904
  · rw [if_pos hin] at h
    obtain ⟨hn0, ha0, hal, hll⟩ := hin
    have HV := Aside0.mk h1
    have HR := Aside0.mk hr
    have HC := Aside0.mk hc
    have HB := Aside0.mk hb
    have H := Aside0.mk (Option.some.inj h)
    clear h1 hr hc hb h
    go_enter Try.func37, Try.ntmps37
    go_wp2_with ((with_reducible refine gate_callee (f := 36) rfl ?_); refine goesL_ (some 5) rfl rfl Try.func36 (by kernel_rfl) rfl #[.pointer (some ⟨gr, 0, none⟩)] rfl (by (try simp only [List.map_toArray, List.map_cons, List.map_nil]); first | done | rfl) ?_; (with_reducible refine (spec_ReadEdit.num_calls k l at_ bad n at1 bad1 A c gr _ ?side1 HC.out ?side2 HV.out).mono ?_); (case side1 => exact HR.out _ (by with_reducible repeat (first | exact Gr.refl _ _ | apply Gr.drewN | apply Gr.drew))); (case side2 => (with_reducible repeat (first | refine blk_drewN ?_ _ | refine blk_drew ?_)); exact HB.out); rintro e w2 ⟨rfl, h2⟩; refine ⟨_, rfl, ?_⟩; have R2 := Aside0.mk (⟨Gr.trans (by with_reducible repeat (first | exact Gr.refl _ _ | apply Gr.drewN | apply Gr.drew)) h2.step, h2.blk⟩ : spec_ReadEdit.Rs gr w A l.length c at1 bad1 w2); clear h2)
    have R3 := Aside0.mk R2.out.drew
    cases bad1 with
    | true =>
      refine start_ (n := 18) (S := fun w' => w'.cell? ⟨gr, 0, none⟩ = some (.slice A l.length c) ∧ w'.cell? ⟨gr, 1, none⟩ = some (.int .i64 at1) ∧ w'.cell? ⟨gr, 2, none⟩ = some (.bool true)) (ds := []) #[false, false, false, false, false, false, false, false, false, false, false, false, false, false, false, false, false, false] (by kernel_rfl) rfl rfl ⟨(blk_cell R2.out.blk 0).trans rfl, (blk_cell R2.out.blk 1).trans rfl, (blk_cell R2.out.blk 2).trans rfl⟩ (fun hHeld => ?_)
      generalize w2.drew = w3 at R3 hHeld ⊢
      refine pure_ (i := 0) (N := some 6) (v := ?_) (a' := ?_) #[true, false, false, false, false, false, false, false, false, false, false, false, false, false, false, false, false, false] rfl rfl (by kernel_rfl) (fun _ _ _ h => h) (Or.inl ⟨by rfl, ?_⟩) ?_ ?_
      rotate_left
      · intro w'
        go_simp
        with_reducible rfl
      rotate_left
      · simp only [Act.put, List.setIfInBounds_toArray, List.set_cons_zero, List.set_cons_succ, i64_w, i32_w]
        rfl
      refine pure_ (i := 1) (N := some 7) (v := ?_) (a' := ?_) #[true, true, false, false, false, false, false, false, false, false, false, false, false, false, false, false, false, false] rfl rfl (by kernel_rfl) (fun _ _ _ h => h) (Or.inl ⟨by rfl, ?_⟩) ?_ ?_
      rotate_left
      · intro w'
        go_simp
        with_reducible rfl
      rotate_left
      · simp only [Act.put, List.setIfInBounds_toArray, List.set_cons_zero, List.set_cons_succ, i64_w, i32_w]
        rfl
      refine pure_ (i := 2) (N := some 8) (v := ?_) (a' := ?_) #[true, true, true, false, false, false, false, false, false, false, false, false, false, false, false, false, false, false] rfl rfl (by kernel_rfl) (fun _ _ _ h => h) (Or.inl ⟨by rfl, ?_⟩) ?_ ?_
      rotate_left
      · intro w'
        go_simp
        with_reducible rfl
      rotate_left
      · simp only [Act.put, List.setIfInBounds_toArray, List.set_cons_zero, List.set_cons_succ, i64_w, i32_w]
        rfl
      refine take_ (i := 3) (N := some 9) (v := ?_) (a' := ?_) #[true, true, true, true, false, false, false, false, false, false, false, false, false, false, false, false, false, false] rfl rfl (by kernel_rfl) (fun _ _ _ h => h) (Or.inl ⟨by rfl, ?_⟩) hHeld ?_ ?_
      rotate_left
      · rintro w' ⟨s0, s1, s2⟩
        go_simp
        with_reducible rfl
      rotate_left
      · simp only [Act.put, List.setIfInBounds_toArray, List.set_cons_zero, List.set_cons_succ, i64_w, i32_w]
        rfl
      refine pure_ (i := 4) (N := some 10) (v := ?_) (a' := ?_) #[true, true, true, true, true, false, false, false, false, false, false, false, false, false, false, false, false, false] rfl rfl (by kernel_rfl) (fun _ _ _ h => h) (Or.inl ⟨by rfl, ?_⟩) ?_ ?_
      rotate_left
      · intro w'
        go_simp
        with_reducible rfl
      rotate_left
      · simp only [Act.put, List.setIfInBounds_toArray, List.set_cons_zero, List.set_cons_succ, i64_w, i32_w]
        rfl
      refine pure_ (i := 5) (N := some 11) (v := undef) (a' := ?_) #[true, true, true, true, true, true, false, false, false, false, false, false, false, false, false, false, false, false] rfl rfl (by kernel_rfl) (fun _ _ _ h => h) (Or.inr ⟨by rfl, rfl⟩) ?_ ?_
      rotate_left
      · simp only [Act.put, List.setIfInBounds_toArray, List.set_cons_zero, List.set_cons_succ, i64_w, i32_w]
        rfl
      refine pure_ (i := 6) (N := some 12) (v := undef) (a' := ?_) #[true, true, true, true, true, true, true, false, false, false, false, false, false, false, false, false, false, false] rfl rfl (by kernel_rfl) (fun _ _ _ h => h) (Or.inr ⟨by rfl, rfl⟩) ?_ ?_
      rotate_left
      · simp only [Act.put, List.setIfInBounds_toArray, List.set_cons_zero, List.set_cons_succ, i64_w, i32_w]
        rfl
      refine pure_ (i := 7) (N := some 13) (v := undef) (a' := ?_) #[true, true, true, true, true, true, true, true, false, false, false, false, false, false, false, false, false, false] rfl rfl (by kernel_rfl) (fun _ _ _ h => h) (Or.inr ⟨by rfl, rfl⟩) ?_ ?_
      rotate_left
      · simp only [Act.put, List.setIfInBounds_toArray, List.set_cons_zero, List.set_cons_succ, i64_w, i32_w]
        rfl
      refine pure_ (i := 8) (N := some 14) (v := undef) (a' := ?_) #[true, true, true, true, true, true, true, true, true, false, false, false, false, false, false, false, false, false] rfl rfl (by kernel_rfl) (fun _ _ _ h => h) (Or.inr ⟨by rfl, rfl⟩) ?_ ?_
      rotate_left
      · simp only [Act.put, List.setIfInBounds_toArray, List.set_cons_zero, List.set_cons_succ, i64_w, i32_w]
        rfl
      refine pure_ (i := 9) (N := some 15) (v := undef) (a' := ?_) #[true, true, true, true, true, true, true, true, true, true, false, false, false, false, false, false, false, false] rfl rfl (by kernel_rfl) (fun _ _ _ h => h) (Or.inr ⟨by rfl, rfl⟩) ?_ ?_
      rotate_left
      · simp only [Act.put, List.setIfInBounds_toArray, List.set_cons_zero, List.set_cons_succ, i64_w, i32_w]
        rfl
      refine pure_ (i := 10) (N := some 16) (v := undef) (a' := ?_) #[true, true, true, true, true, true, true, true, true, true, true, false, false, false, false, false, false, false] rfl rfl (by kernel_rfl) (fun _ _ _ h => h) (Or.inr ⟨by rfl, rfl⟩) ?_ ?_
      rotate_left
      · simp only [Act.put, List.setIfInBounds_toArray, List.set_cons_zero, List.set_cons_succ, i64_w, i32_w]
        rfl
      refine pure_ (i := 11) (N := some 17) (v := undef) (a' := ?_) #[true, true, true, true, true, true, true, true, true, true, true, true, false, false, false, false, false, false] rfl rfl (by kernel_rfl) (fun _ _ _ h => h) (Or.inr ⟨by rfl, rfl⟩) ?_ ?_
      rotate_left
      · simp only [Act.put, List.setIfInBounds_toArray, List.set_cons_zero, List.set_cons_succ, i64_w, i32_w]
        rfl
      refine pure_ (i := 12) (N := some 18) (v := undef) (a' := ?_) #[true, true, true, true, true, true, true, true, true, true, true, true, true, false, false, false, false, false] rfl rfl (by kernel_rfl) (fun _ _ _ h => h) (Or.inr ⟨by rfl, rfl⟩) ?_ ?_
      rotate_left
      · simp only [Act.put, List.setIfInBounds_toArray, List.set_cons_zero, List.set_cons_succ, i64_w, i32_w]
        rfl
      refine pure_ (i := 13) (N := some 19) (v := undef) (a' := ?_) #[true, true, true, true, true, true, true, true, true, true, true, true, true, true, false, false, false, false] rfl rfl (by kernel_rfl) (fun _ _ _ h => h) (Or.inr ⟨by rfl, rfl⟩) ?_ ?_
      rotate_left
      · simp only [Act.put, List.setIfInBounds_toArray, List.set_cons_zero, List.set_cons_succ, i64_w, i32_w]
        rfl
      refine pure_ (i := 14) (N := some 20) (v := undef) (a' := ?_) #[true, true, true, true, true, true, true, true, true, true, true, true, true, true, true, false, false, false] rfl rfl (by kernel_rfl) (fun _ _ _ h => h) (Or.inr ⟨by rfl, rfl⟩) ?_ ?_
      rotate_left
      · simp only [Act.put, List.setIfInBounds_toArray, List.set_cons_zero, List.set_cons_succ, i64_w, i32_w]
        rfl
      refine pure_ (i := 15) (N := some 21) (v := undef) (a' := ?_) #[true, true, true, true, true, true, true, true, true, true, true, true, true, true, true, true, false, false] rfl rfl (by kernel_rfl) (fun _ _ _ h => h) (Or.inr ⟨by rfl, rfl⟩) ?_ ?_
      rotate_left
      · simp only [Act.put, List.setIfInBounds_toArray, List.set_cons_zero, List.set_cons_succ, i64_w, i32_w]
        rfl
      refine pure_ (i := 16) (N := some 22) (v := undef) (a' := ?_) #[true, true, true, true, true, true, true, true, true, true, true, true, true, true, true, true, true, false] rfl rfl (by kernel_rfl) (fun _ _ _ h => h) (Or.inr ⟨by rfl, rfl⟩) ?_ ?_
      rotate_left
      · simp only [Act.put, List.setIfInBounds_toArray, List.set_cons_zero, List.set_cons_succ, i64_w, i32_w]
        rfl
      refine pure_ (i := 17) (N := some 23) (v := ?_) (a' := ?_) #[true, true, true, true, true, true, true, true, true, true, true, true, true, true, true, true, true, true] rfl rfl (by kernel_rfl) (fun _ _ _ h => h) (Or.inl ⟨by rfl, ?_⟩) ?_ ?_
      rotate_left
      · intro w'
        go_simp
        with_reducible rfl
      rotate_left
      · simp only [Act.put, List.setIfInBounds_toArray, List.set_cons_zero, List.set_cons_succ, i64_w, i32_w]
        rfl
      refine done_ (by kernel_rfl) ?_
      clear hHeld R2
      have R2 := R3
      clear R3
      have hx := c3 R2.out.blk
      have hf := f3 R2.out.blk
      have H2 := H.out
      simp only [if_true, Prod.mk.injEq] at H2
      obtain ⟨rfl, rfl, rfl⟩ := H2
      clear H
      go_wp2
      go_ret
      exact ⟨rfl, by with_reducible repeat (first | exact R2.out | apply spec_ReadEdit.Rs.drewN | apply spec_ReadEdit.Rs.drew | apply spec_ReadEdit.Rs.set2)⟩
    | false =>
      refine start_ (n := 18) (S := fun w' => w'.cell? ⟨gr, 0, none⟩ = some (.slice A l.length c) ∧ w'.cell? ⟨gr, 1, none⟩ = some (.int .i64 at1) ∧ w'.cell? ⟨gr, 2, none⟩ = some (.bool false)) (ds := []) #[false, false, false, false, false, false, false, false, false, false, false, false, false, false, false, false, false, false] (by kernel_rfl) rfl rfl ⟨(blk_cell R2.out.blk 0).trans rfl, (blk_cell R2.out.blk 1).trans rfl, (blk_cell R2.out.blk 2).trans rfl⟩ (fun hHeld => ?_)
      generalize w2.drew = w3 at R3 hHeld ⊢
      refine pure_ (i := 0) (N := some 6) (v := ?_) (a' := ?_) #[true, false, false, false, false, false, false, false, false, false, false, false, false, false, false, false, false, false] rfl rfl (by kernel_rfl) (fun _ _ _ h => h) (Or.inl ⟨by rfl, ?_⟩) ?_ ?_
      rotate_left
      · intro w'
        go_simp
        with_reducible rfl
      rotate_left
      · simp only [Act.put, List.setIfInBounds_toArray, List.set_cons_zero, List.set_cons_succ, i64_w, i32_w]
        rfl
      refine pure_ (i := 1) (N := some 7) (v := ?_) (a' := ?_) #[true, true, false, false, false, false, false, false, false, false, false, false, false, false, false, false, false, false] rfl rfl (by kernel_rfl) (fun _ _ _ h => h) (Or.inl ⟨by rfl, ?_⟩) ?_ ?_
      rotate_left
      · intro w'
        go_simp
        with_reducible rfl
      rotate_left
      · simp only [Act.put, List.setIfInBounds_toArray, List.set_cons_zero, List.set_cons_succ, i64_w, i32_w]
        rfl
      refine pure_ (i := 2) (N := some 8) (v := ?_) (a' := ?_) #[true, true, true, false, false, false, false, false, false, false, false, false, false, false, false, false, false, false] rfl rfl (by kernel_rfl) (fun _ _ _ h => h) (Or.inl ⟨by rfl, ?_⟩) ?_ ?_
      rotate_left
      · intro w'
        go_simp
        with_reducible rfl
      rotate_left
      · simp only [Act.put, List.setIfInBounds_toArray, List.set_cons_zero, List.set_cons_succ, i64_w, i32_w]
        rfl
      refine take_ (i := 3) (N := some 9) (v := ?_) (a' := ?_) #[true, true, true, true, false, false, false, false, false, false, false, false, false, false, false, false, false, false] rfl rfl (by kernel_rfl) (fun _ _ _ h => h) (Or.inl ⟨by rfl, ?_⟩) hHeld ?_ ?_
      rotate_left
      · rintro w' ⟨s0, s1, s2⟩
        go_simp
        with_reducible rfl
      rotate_left
      · simp only [Act.put, List.setIfInBounds_toArray, List.set_cons_zero, List.set_cons_succ, i64_w, i32_w]
        rfl
      refine pure_ (i := 4) (N := some 10) (v := ?_) (a' := ?_) #[true, true, true, true, true, false, false, false, false, false, false, false, false, false, false, false, false, false] rfl rfl (by kernel_rfl) (fun _ _ _ h => h) (Or.inl ⟨by rfl, ?_⟩) ?_ ?_
      rotate_left
      · intro w'
        go_simp
        with_reducible rfl
      rotate_left
      · simp only [Act.put, List.setIfInBounds_toArray, List.set_cons_zero, List.set_cons_succ, i64_w, i32_w]
        rfl
      refine pure_ (i := 5) (N := some 11) (v := ?_) (a' := ?_) #[true, true, true, true, true, true, false, false, false, false, false, false, false, false, false, false, false, false] rfl rfl (by kernel_rfl) (fun _ _ _ h => h) (Or.inl ⟨by rfl, ?_⟩) ?_ ?_
      rotate_left
      · intro w'
        go_simp
        with_reducible rfl
      rotate_left
      · simp only [Act.put, List.setIfInBounds_toArray, List.set_cons_zero, List.set_cons_succ, i64_w, i32_w]
        rfl
      refine pure_ (i := 6) (N := some 12) (v := ?_) (a' := ?_) #[true, true, true, true, true, true, true, false, false, false, false, false, false, false, false, false, false, false] rfl rfl (by kernel_rfl) (fun _ _ _ h => h) (Or.inl ⟨by rfl, ?_⟩) ?_ ?_
      rotate_left
      · intro w'
        go_simp
        with_reducible rfl
      rotate_left
      · simp only [Act.put, List.setIfInBounds_toArray, List.set_cons_zero, List.set_cons_succ, i64_w, i32_w]
        rfl
      refine pure_ (i := 7) (N := some 13) (v := ?_) (a' := ?_) #[true, true, true, true, true, true, true, true, false, false, false, false, false, false, false, false, false, false] rfl rfl (by kernel_rfl) (fun _ _ _ h => h) (Or.inl ⟨by rfl, ?_⟩) ?_ ?_
      rotate_left
      · intro w'
        go_simp
        with_reducible rfl
      rotate_left
      · simp only [Act.put, List.setIfInBounds_toArray, List.set_cons_zero, List.set_cons_succ, i64_w, i32_w]
        rfl
      refine pure_ (i := 8) (N := some 14) (v := ?_) (a' := ?_) #[true, true, true, true, true, true, true, true, true, false, false, false, false, false, false, false, false, false] rfl rfl (by kernel_rfl) (fun _ _ _ h => h) (Or.inl ⟨by rfl, ?_⟩) ?_ ?_
      rotate_left
      · intro w'
        go_simp
        with_reducible rfl
      rotate_left
      · simp only [Act.put, List.setIfInBounds_toArray, List.set_cons_zero, List.set_cons_succ, i64_w, i32_w]
        rfl
      refine take_ (i := 9) (N := some 15) (v := ?_) (a' := ?_) #[true, true, true, true, true, true, true, true, true, true, false, false, false, false, false, false, false, false] rfl rfl (by kernel_rfl) (fun _ _ _ h => h) (Or.inl ⟨by rfl, ?_⟩) hHeld ?_ ?_
      rotate_left
      · rintro w' ⟨s0, s1, s2⟩
        go_simp
        with_reducible rfl
      rotate_left
      · simp only [Act.put, List.setIfInBounds_toArray, List.set_cons_zero, List.set_cons_succ, i64_w, i32_w]
        rfl
      refine pure_ (i := 10) (N := some 16) (v := ?_) (a' := ?_) #[true, true, true, true, true, true, true, true, true, true, true, false, false, false, false, false, false, false] rfl rfl (by kernel_rfl) (fun _ _ _ h => h) (Or.inl ⟨by rfl, ?_⟩) ?_ ?_
      rotate_left
      · intro w'
        go_simp
        with_reducible rfl
      rotate_left
      · simp only [Act.put, List.setIfInBounds_toArray, List.set_cons_zero, List.set_cons_succ, i64_w, i32_w]
        rfl
      refine pure_ (i := 11) (N := some 17) (v := ?_) (a' := ?_) #[true, true, true, true, true, true, true, true, true, true, true, true, false, false, false, false, false, false] rfl rfl (by kernel_rfl) (fun _ _ _ h => h) (Or.inl ⟨by rfl, ?_⟩) ?_ ?_
      rotate_left
      · intro w'
        go_simp
        with_reducible rfl
      rotate_left
      · simp only [Act.put, List.setIfInBounds_toArray, List.set_cons_zero, List.set_cons_succ, i64_w, i32_w]
        rfl
      refine pure_ (i := 12) (N := some 18) (v := ?_) (a' := ?_) #[true, true, true, true, true, true, true, true, true, true, true, true, true, false, false, false, false, false] rfl rfl (by kernel_rfl) (fun _ _ _ h => h) (Or.inl ⟨by rfl, ?_⟩) ?_ ?_
      rotate_left
      · intro w'
        go_simp
        with_reducible rfl
      rotate_left
      · simp only [Act.put, List.setIfInBounds_toArray, List.set_cons_zero, List.set_cons_succ, i64_w, i32_w]
        rfl
      refine pure_ (i := 13) (N := some 19) (v := ?_) (a' := ?_) #[true, true, true, true, true, true, true, true, true, true, true, true, true, true, false, false, false, false] rfl rfl (by kernel_rfl) (fun _ _ _ h => h) (Or.inl ⟨by rfl, ?_⟩) ?_ ?_
      rotate_left
      · intro w'
        go_simp
        with_reducible rfl
      rotate_left
      · simp only [Act.put, List.setIfInBounds_toArray, List.set_cons_zero, List.set_cons_succ, i64_w, i32_w]
        rfl
      refine take_ (i := 14) (N := some 20) (v := ?_) (a' := ?_) #[true, true, true, true, true, true, true, true, true, true, true, true, true, true, true, false, false, false] rfl rfl (by kernel_rfl) (fun _ _ _ h => h) (Or.inl ⟨by rfl, ?_⟩) hHeld ?_ ?_
      rotate_left
      · rintro w' ⟨s0, s1, s2⟩
        go_simp
        with_reducible rfl
      rotate_left
      · simp only [Act.put, List.setIfInBounds_toArray, List.set_cons_zero, List.set_cons_succ, i64_w, i32_w]
        rfl
      refine pure_ (i := 15) (N := some 21) (v := ?_) (a' := ?_) #[true, true, true, true, true, true, true, true, true, true, true, true, true, true, true, true, false, false] rfl rfl (by kernel_rfl) (fun _ _ _ h => h) (Or.inl ⟨by rfl, ?_⟩) ?_ ?_
      rotate_left
      · intro w'
        go_simp
        with_reducible rfl
      rotate_left
      · simp only [Act.put, List.setIfInBounds_toArray, List.set_cons_zero, List.set_cons_succ, i64_w, i32_w]
        rfl
      refine pure_ (i := 16) (N := some 22) (v := ?_) (a' := ?_) #[true, true, true, true, true, true, true, true, true, true, true, true, true, true, true, true, true, false] rfl rfl (by kernel_rfl) (fun _ _ _ h => h) (Or.inl ⟨by rfl, ?_⟩) ?_ ?_
      rotate_left
      · intro w'
        go_simp
        with_reducible rfl
      rotate_left
      · simp only [Act.put, List.setIfInBounds_toArray, List.set_cons_zero, List.set_cons_succ, i64_w, i32_w]
        rfl
      refine pure_ (i := 17) (N := some 23) (v := ?_) (a' := ?_) #[true, true, true, true, true, true, true, true, true, true, true, true, true, true, true, true, true, true] rfl rfl (by kernel_rfl) (fun _ _ _ h => h) (Or.inl ⟨by rfl, ?_⟩) ?_ ?_
      rotate_left
      · intro w'
        go_simp
        with_reducible rfl
      rotate_left
      · simp only [Act.put, List.setIfInBounds_toArray, List.set_cons_zero, List.set_cons_succ, i64_w, i32_w]
        rfl
      refine done_ (by kernel_rfl) ?_
      clear hHeld R2
      have R2 := R3
      clear R3
      have hx := c3 R2.out.blk
      have hf := f3 R2.out.blk
      have hw0 : wrap64 ((l.length : Int) - at1) = (l.length : Int) - at1 := by unfold wrap64; omega
      cases hgt : decide (wrap64 ((l.length : Int) - at1) < n) with
      | true =>
        have H2 := H.out
        simp only [hgt, Bool.false_eq_true, if_true, if_false, Prod.mk.injEq] at H2
        obtain ⟨rfl, rfl, rfl⟩ := H2
        clear H hw0
        go_wp2
        go_ret
        exact ⟨rfl, by with_reducible repeat (first | exact R2.out | apply spec_ReadEdit.Rs.drewN | apply spec_ReadEdit.Rs.drew | apply spec_ReadEdit.Rs.set2)⟩
      | false =>
        have H2 := H.out
        simp only [hgt, Bool.false_eq_true, if_true, if_false, Prod.mk.injEq] at H2
        obtain ⟨rfl, rfl, rfl⟩ := H2
        have hle : n ≤ (l.length : Int) - at1 := by have h3 := of_decide_eq_false hgt; rw [hw0] at h3; omega
        have ha : wrap64 (at1 + n) = at1 + n := by unfold wrap64; omega
        have hs : wrap64 (at1 + n - n) = at1 := by unfold wrap64; omega
        clear H hw0
        have hs1 : wrap64 at1 = at1 := by unfold wrap64; omega
        have hcl := HC.out
        have hc1 : 0 ≤ at1 + n := by omega
        have hc2 : at1 + n ≤ (c : Int) := by omega
        have hc3 : at1 ≤ max (at1 + n) 0 := by omega
        obtain ⟨M, hM⟩ : ∃ y : List Int, y = (l.take (at1 + n).toNat).drop at1.toNat := ⟨_, rfl⟩
        have hML : M.length = (at1 + n).toNat - at1.toNat := by rw [hM, List.length_drop, List.length_take]; omega
        have NM := Aside0.mk hM
        have HCV := Aside0.mk (show ∀ V, Gr gr w V → (convert 22 9 (.slice (if c = at1.toNat then A else Option.map (fun x => x.add at1.toNat) A) ((at1 + n).toNat - at1.toNat) (c - at1.toNat))).run Try.prog V = .ok (.string (strOfNums M)) V from fun V hV => Kd.C_string Try.underlying22 Try.underlying5 Try.underlying9 (by
          have h3 := Kd.C_mid (lo := at1.toNat) (hi := (at1 + n).toNat) (c := c) (HR.out V hV) (by omega) (by omega) hcl
          simp only [show (Kd.int .u8).sz = 1 from rfl, Nat.mul_one] at h3
          rw [← hM, hML] at h3
          exact h3))
        clear hM hML hcl
        go_wp2
        have R4 := Aside0.mk (spec_ReadEdit.Rs.set1 R2.out (at1 + n)).drew
        have hcv := HCV.out _ R4.out.step
        refine start_ (n := 17) (S := fun w' => w'.cell? ⟨gr, 0, none⟩ = some (.slice A l.length c) ∧ w'.cell? ⟨gr, 1, none⟩ = some (.int .i64 (at1 + n)) ∧ (convert 22 9 (.slice (if c = at1.toNat then A else Option.map (fun x => x.add at1.toNat) A) ((at1 + n).toNat - at1.toNat) (c - at1.toNat))).run Try.prog w' = .ok (.string (strOfNums M)) w') (ds := []) #[false, false, false, false, false, false, false, false, false, false, false, false, false, false, false, false, false] (by kernel_rfl) rfl rfl ⟨(blk_cell R4.out.blk 0).trans rfl, (blk_cell R4.out.blk 1).trans rfl, hcv⟩ (fun hHeld => ?_)
        clear hcv HCV R2 hx hf
        generalize World.drew _ = w4 at R4 hHeld ⊢
        refine pure_ (i := 0) (N := some 35) (v := ?_) (a' := ?_) #[true, false, false, false, false, false, false, false, false, false, false, false, false, false, false, false, false] rfl rfl (by kernel_rfl) (fun _ _ _ h => h) (Or.inl ⟨by rfl, ?_⟩) ?_ ?_
        rotate_left
        · intro w'
          go_simp
          with_reducible rfl
        rotate_left
        · simp only [Act.put, List.setIfInBounds_toArray, List.set_cons_zero, List.set_cons_succ, i64_w, i32_w]
          rfl
        refine pure_ (i := 1) (N := some 36) (v := ?_) (a' := ?_) #[true, true, false, false, false, false, false, false, false, false, false, false, false, false, false, false, false] rfl rfl (by kernel_rfl) (fun _ _ _ h => h) (Or.inl ⟨by rfl, ?_⟩) ?_ ?_
        rotate_left
        · intro w'
          go_simp
          with_reducible rfl
        rotate_left
        · simp only [Act.put, List.setIfInBounds_toArray, List.set_cons_zero, List.set_cons_succ, i64_w, i32_w]
          rfl
        refine pure_ (i := 2) (N := some 37) (v := ?_) (a' := ?_) #[true, true, true, false, false, false, false, false, false, false, false, false, false, false, false, false, false] rfl rfl (by kernel_rfl) (fun _ _ _ h => h) (Or.inl ⟨by rfl, ?_⟩) ?_ ?_
        rotate_left
        · intro w'
          go_simp
          with_reducible rfl
        rotate_left
        · simp only [Act.put, List.setIfInBounds_toArray, List.set_cons_zero, List.set_cons_succ, i64_w, i32_w]
          rfl
        refine take_ (i := 3) (N := some 38) (v := ?_) (a' := ?_) #[true, true, true, true, false, false, false, false, false, false, false, false, false, false, false, false, false] rfl rfl (by kernel_rfl) (fun _ _ _ h => h) (Or.inl ⟨by rfl, ?_⟩) hHeld ?_ ?_
        rotate_left
        · rintro w' ⟨s0, s1, s2⟩
          go_simp
          with_reducible rfl
        rotate_left
        · simp only [Act.put, List.setIfInBounds_toArray, List.set_cons_zero, List.set_cons_succ, i64_w, i32_w]
          rfl
        refine pure_ (i := 4) (N := some 39) (v := ?_) (a' := ?_) #[true, true, true, true, true, false, false, false, false, false, false, false, false, false, false, false, false] rfl rfl (by kernel_rfl) (fun _ _ _ h => h) (Or.inl ⟨by rfl, ?_⟩) ?_ ?_
        rotate_left
        · intro w'
          go_simp
          with_reducible rfl
        rotate_left
        · simp only [Act.put, List.setIfInBounds_toArray, List.set_cons_zero, List.set_cons_succ, i64_w, i32_w]
          rfl
        refine pure_ (i := 5) (N := some 40) (v := ?_) (a' := ?_) #[true, true, true, true, true, true, false, false, false, false, false, false, false, false, false, false, false] rfl rfl (by kernel_rfl) (fun _ _ _ h => h) (Or.inl ⟨by rfl, ?_⟩) ?_ ?_
        rotate_left
        · intro w'
          go_simp
          with_reducible rfl
        rotate_left
        · simp only [Act.put, List.setIfInBounds_toArray, List.set_cons_zero, List.set_cons_succ, i64_w, i32_w]
          rfl
        refine pure_ (i := 6) (N := some 41) (v := ?_) (a' := ?_) #[true, true, true, true, true, true, true, false, false, false, false, false, false, false, false, false, false] rfl rfl (by kernel_rfl) (fun _ _ _ h => h) (Or.inl ⟨by rfl, ?_⟩) ?_ ?_
        rotate_left
        · intro w'
          go_simp
          with_reducible rfl
        rotate_left
        · simp only [Act.put, List.setIfInBounds_toArray, List.set_cons_zero, List.set_cons_succ, i64_w, i32_w]
          rfl
        refine take_ (i := 7) (N := some 42) (v := ?_) (a' := ?_) #[true, true, true, true, true, true, true, true, false, false, false, false, false, false, false, false, false] rfl rfl (by kernel_rfl) (fun _ _ _ h => h) (Or.inl ⟨by rfl, ?_⟩) hHeld ?_ ?_
        rotate_left
        · rintro w' ⟨s0, s1, s2⟩
          go_simp
          with_reducible rfl
        rotate_left
        · simp only [Act.put, List.setIfInBounds_toArray, List.set_cons_zero, List.set_cons_succ, i64_w, i32_w]
          rfl
        refine pure_ (i := 8) (N := some 43) (v := ?_) (a' := ?_) #[true, true, true, true, true, true, true, true, true, false, false, false, false, false, false, false, false] rfl rfl (by kernel_rfl) (fun _ _ _ h => h) (Or.inl ⟨by rfl, ?_⟩) ?_ ?_
        rotate_left
        · intro w'
          go_simp
          with_reducible rfl
        rotate_left
        · simp only [Act.put, List.setIfInBounds_toArray, List.set_cons_zero, List.set_cons_succ, i64_w, i32_w]
          rfl
        refine pure_ (i := 9) (N := some 44) (v := ?_) (a' := ?_) #[true, true, true, true, true, true, true, true, true, true, false, false, false, false, false, false, false] rfl rfl (by kernel_rfl) (fun _ _ _ h => h) (Or.inl ⟨by rfl, ?_⟩) ?_ ?_
        rotate_left
        · intro w'
          go_simp
          with_reducible rfl
        rotate_left
        · simp only [Act.put, List.setIfInBounds_toArray, List.set_cons_zero, List.set_cons_succ, i64_w, i32_w]
          rfl
        refine pure_ (i := 10) (N := some 45) (v := ?_) (a' := ?_) #[true, true, true, true, true, true, true, true, true, true, true, false, false, false, false, false, false] rfl rfl (by kernel_rfl) (fun _ _ _ h => h) (Or.inl ⟨by rfl, ?_⟩) ?_ ?_
        rotate_left
        · intro w'
          go_simp
          with_reducible rfl
        rotate_left
        · simp only [Act.put, List.setIfInBounds_toArray, List.set_cons_zero, List.set_cons_succ, i64_w, i32_w]
          rfl
        refine pure_ (i := 11) (N := some 46) (v := ?_) (a' := ?_) #[true, true, true, true, true, true, true, true, true, true, true, true, false, false, false, false, false] rfl rfl (by kernel_rfl) (fun _ _ _ h => h) (Or.inl ⟨by rfl, ?_⟩) ?_ ?_
        rotate_left
        · intro w'
          go_simp
          with_reducible rfl
        rotate_left
        · simp only [Act.put, List.setIfInBounds_toArray, List.set_cons_zero, List.set_cons_succ, i64_w, i32_w]
          rfl
        refine pure_ (i := 12) (N := some 47) (v := ?_) (a' := ?_) #[true, true, true, true, true, true, true, true, true, true, true, true, true, false, false, false, false] rfl rfl (by kernel_rfl) (fun _ _ _ h => h) (Or.inl ⟨by rfl, ?_⟩) ?_ ?_
        rotate_left
        · intro w'
          go_simp
          with_reducible rfl
        rotate_left
        · simp only [Act.put, List.setIfInBounds_toArray, List.set_cons_zero, List.set_cons_succ, i64_w, i32_w]
          rfl
        refine take_ (i := 13) (N := some 48) (v := ?_) (a' := ?_) #[true, true, true, true, true, true, true, true, true, true, true, true, true, true, false, false, false] rfl rfl (by kernel_rfl) (fun _ _ _ h => h) (Or.inl ⟨by rfl, ?_⟩) hHeld ?_ ?_
        rotate_left
        · rintro w' ⟨s0, s1, s2⟩
          go_simp
          with_reducible rfl
        rotate_left
        · simp only [Act.put, List.setIfInBounds_toArray, List.set_cons_zero, List.set_cons_succ, i64_w, i32_w]
          rfl
        refine pure_ (i := 14) (N := some 49) (v := ?_) (a' := ?_) #[true, true, true, true, true, true, true, true, true, true, true, true, true, true, true, false, false] rfl rfl (by kernel_rfl) (fun _ _ _ h => h) (Or.inl ⟨by rfl, ?_⟩) ?_ ?_
        rotate_left
        · intro w'
          go_simp
          with_reducible rfl
        rotate_left
        · simp only [Act.put, List.setIfInBounds_toArray, List.set_cons_zero, List.set_cons_succ, i64_w, i32_w]
          rfl
        refine take_ (i := 15) (N := some 50) (v := ?_) (a' := ?_) #[true, true, true, true, true, true, true, true, true, true, true, true, true, true, true, true, false] rfl rfl (by kernel_rfl) (fun _ _ _ h => h) (Or.inl ⟨by rfl, ?_⟩) hHeld ?_ ?_
        rotate_left
        · rintro w' ⟨s0, s1, s2⟩
          go_simp
          with_reducible rfl
        rotate_left
        · simp only [Act.put, List.setIfInBounds_toArray, List.set_cons_zero, List.set_cons_succ, i64_w, i32_w]
          rfl
        refine pure_ (i := 16) (N := some 2) (v := ?_) (a' := ?_) #[true, true, true, true, true, true, true, true, true, true, true, true, true, true, true, true, true] rfl rfl (by kernel_rfl) (fun _ _ _ h => h) (Or.inl ⟨by rfl, ?_⟩) ?_ ?_
        rotate_left
        · intro w'
          go_simp
          with_reducible rfl
        rotate_left
        · simp only [Act.put, List.setIfInBounds_toArray, List.set_cons_zero, List.set_cons_succ, i64_w, i32_w]
          rfl
        refine done_ (by kernel_rfl) ?_
        clear hHeld
        have R2 := R4
        clear R4
        generalize (if c = at1.toNat then A else Option.map (fun x => x.add at1.toNat) A) = A2
        go_wp2
        go_ret
        rw [← NM.out]
        exact ⟨rfl, by with_reducible repeat (first | exact R2.out | apply spec_ReadEdit.Rs.drewN | apply spec_ReadEdit.Rs.drew)⟩
  · rw [if_neg hin] at h; cases h
/-- what is so: the result's block, the reader's, the edit's; the rows -/
structure spec_ReadEdit.St (w0 W : World) (g2 g4 g5 : Nat) (A : Option Addr) (n c : Nat) (at_ : Int) (bad : Bool) (e0 e1 e2 : Int) (vd : Value) (D : List Int) (va : Value) (B : List S75) : Prop where
  br : W.heap[g2]? = some (.cells #[.int .i64 0, .int .i64 0, .int .i64 0, .slice none 0 0, .slice none 0 0] 26 (0, 0))
  brd : W.heap[g4]? = some (.cells #[.slice A n c, .int .i64 at_, .bool bad] 70 (0, 0))
  be : W.heap[g5]? = some (.cells #[.int .i64 e0, .int .i64 e1, .int .i64 e2, vd, va] 26 (0, 0))
  rd : Kd.R (Kd.int .i64) 3 W w0.heap.size (fun _ => True) vd D
  ra : Kd.R k75 75 W w0.heap.size (fun _ => True) va B
  bel : Below w0.heap.size w0 W
structure spec_ReadEdit.Gs (w0 : World) (g2 g4 g5 : Nat) : Prop where
  m2 : w0.heap.size ≤ g2
  m4 : w0.heap.size ≤ g4
  m5 : w0.heap.size ≤ g5
  n24 : g2 ≠ g4
  n25 : g2 ≠ g5
  n45 : g4 ≠ g5
section
variable {w0 W V : World} {g2 g4 g5 : Nat} {A : Option Addr} {n c : Nat} {at_ at2 : Int} {bad bad2 : Bool} {e0 e1 e2 : Int} {vd va vd2 va2 : Value} {D D2 : List Int} {B B2 : List S75}
theorem spec_ReadEdit.St.drew (h : spec_ReadEdit.St w0 W g2 g4 g5 A n c at_ bad e0 e1 e2 vd D va B) : spec_ReadEdit.St w0 W.drew g2 g4 g5 A n c at_ bad e0 e1 e2 vd D va B := ⟨h.br, h.brd, h.be, Kd.R_drew h.rd, Kd.R_drew h.ra, below_drew1 h.bel⟩
theorem spec_ReadEdit.St.drewN (h : spec_ReadEdit.St w0 W g2 g4 g5 A n c at_ bad e0 e1 e2 vd D va B) (m : Nat) : spec_ReadEdit.St w0 (W.drewN m) g2 g4 g5 A n c at_ bad e0 e1 e2 vd D va B := ⟨h.br, h.brd, h.be, Kd.R_drewN h.rd m, Kd.R_drewN h.ra m, pw_below_drewN h.bel m⟩
theorem spec_ReadEdit.St.below (h : spec_ReadEdit.St w0 W g2 g4 g5 A n c at_ bad e0 e1 e2 vd D va B) (hb : Below W.heap.size W V) : spec_ReadEdit.St w0 V g2 g4 g5 A n c at_ bad e0 e1 e2 vd D va B := ⟨blk_below h.br hb, blk_below h.brd hb, blk_below h.be hb, Kd.R_below h.rd hb, Kd.R_below h.ra hb, below_step h.bel hb⟩
/-- behind a call of the reader's -/
theorem spec_ReadEdit.St.read (h : spec_ReadEdit.St w0 W g2 g4 g5 A n c at_ bad e0 e1 e2 vd D va B) (G : spec_ReadEdit.Gs w0 g2 g4 g5) (k : spec_ReadEdit.Rs g4 W A n c at2 bad2 V) : spec_ReadEdit.St w0 V g2 g4 g5 A n c at2 bad2 e0 e1 e2 vd D va B :=
  ⟨k.step.blk h.br G.n24, k.blk, k.step.blk h.be G.n45.symm, k.step.Rt h.rd h.brd (by decide), k.step.Rt h.ra h.brd (by decide), k.step.below h.bel G.m4⟩
/-- the edit's drops are stored -/
theorem spec_ReadEdit.St.setD (h : spec_ReadEdit.St w0 W g2 g4 g5 A n c at_ bad e0 e1 e2 vd D va B) (G : spec_ReadEdit.Gs w0 g2 g4 g5) (hd : Kd.R (Kd.int .i64) 3 W w0.heap.size (fun _ => True) vd2 D2) : spec_ReadEdit.St w0 (W.setCell ⟨g5, 3, none⟩ vd2) g2 g4 g5 A n c at_ bad e0 e1 e2 vd2 D2 va B := by
  have on := (On.refl g5 W).set 3 vd2
  exact ⟨on.blk h.br G.n25, on.blk h.brd G.n45, blk_put h.be 3 _ rfl, on.Rt hd h.be (by decide), on.Rt h.ra h.be (by decide), on.below h.bel G.m5⟩
theorem spec_ReadEdit.St.setA (h : spec_ReadEdit.St w0 W g2 g4 g5 A n c at_ bad e0 e1 e2 vd D va B) (G : spec_ReadEdit.Gs w0 g2 g4 g5) (ha : Kd.R k75 75 W w0.heap.size (fun _ => True) va2 B2) : spec_ReadEdit.St w0 (W.setCell ⟨g5, 4, none⟩ va2) g2 g4 g5 A n c at_ bad e0 e1 e2 vd D va2 B2 := by
  have on := (On.refl g5 W).set 4 va2
  exact ⟨on.blk h.br G.n25, on.blk h.brd G.n45, blk_put h.be 4 _ rfl, on.Rt h.rd h.be (by decide), on.Rt ha h.be (by decide), on.below h.bel G.m5⟩
/-- behind an append to the drops: into them, or into new memory -/
theorem spec_ReadEdit.St.grownD (h : spec_ReadEdit.St w0 W g2 g4 g5 A n c at_ bad e0 e1 e2 vd D va B) (hg : W.grownBy V vd.ownBlock) (hb : Below w0.heap.size w0 V) (hd : Kd.R (Kd.int .i64) 3 V w0.heap.size (fun _ => True) vd2 D2) : V.heap[g2]? = some (.cells #[.int .i64 0, .int .i64 0, .int .i64 0, .slice none 0 0, .slice none 0 0] 26 (0, 0)) ∧ V.heap[g4]? = some (.cells #[.slice A n c, .int .i64 at_, .bool bad] 70 (0, 0)) ∧ V.heap[g5]? = some (.cells #[.int .i64 e0, .int .i64 e1, .int .i64 e2, vd, va] 26 (0, 0)) ∧ Kd.R k75 75 V w0.heap.size (fun _ => True) va B :=
  ⟨blk_grown h.br hg (Kd.R_ne h.rd h.br (by decide)), blk_grown h.brd hg (Kd.R_ne h.rd h.brd (by decide)), blk_grown h.be hg (Kd.R_ne h.rd h.be (by decide)), Kd.R_over h.ra h.rd (by decide) hg⟩
end
/-- in a round of the second loop: the variable of the round, and the row of adds apart from it -/
structure spec_ReadEdit.It (w0 W : World) (g2 g4 g5 g8 : Nat) (A : Option Addr) (n c : Nat) (at_ : Int) (bad : Bool) (e0 e1 e2 : Int) (vd : Value) (D : List Int) (va : Value) (B : List S75) (z : S75) : Prop where
  br : W.heap[g2]? = some (.cells #[.int .i64 0, .int .i64 0, .int .i64 0, .slice none 0 0, .slice none 0 0] 26 (0, 0))
  brd : W.heap[g4]? = some (.cells #[.slice A n c, .int .i64 at_, .bool bad] 70 (0, 0))
  be : W.heap[g5]? = some (.cells #[.int .i64 e0, .int .i64 e1, .int .i64 e2, vd, va] 26 (0, 0))
  bz : W.heap[g8]? = some (.cells #[.int .i64 z.f0, .int .i64 z.f1.f0, .string z.f1.f1, .string z.f1.f2, .int .i64 z.f1.f3] 75 (0, 0))
  rd : Kd.R (Kd.int .i64) 3 W w0.heap.size (fun _ => True) vd D
  ra : Kd.R k75 75 W w0.heap.size (fun k => k ≠ g8) va B
  bel : Below w0.heap.size w0 W
structure spec_ReadEdit.G8 (w0 : World) (g2 g4 g5 g8 : Nat) : Prop where
  m8 : w0.heap.size ≤ g8
  n28 : g2 ≠ g8
  n48 : g4 ≠ g8
  n58 : g5 ≠ g8
section
variable {w0 W V : World} {g2 g4 g5 g8 : Nat} {A : Option Addr} {n c : Nat} {at_ at2 : Int} {bad bad2 : Bool} {e0 e1 e2 : Int} {vd va : Value} {D : List Int} {B : List S75} {z y : S75}
theorem spec_ReadEdit.It.drew (h : spec_ReadEdit.It w0 W g2 g4 g5 g8 A n c at_ bad e0 e1 e2 vd D va B z) : spec_ReadEdit.It w0 W.drew g2 g4 g5 g8 A n c at_ bad e0 e1 e2 vd D va B z := ⟨h.br, h.brd, h.be, h.bz, Kd.R_drew h.rd, Kd.R_drew h.ra, below_drew1 h.bel⟩
theorem spec_ReadEdit.It.drewN (h : spec_ReadEdit.It w0 W g2 g4 g5 g8 A n c at_ bad e0 e1 e2 vd D va B z) (m : Nat) : spec_ReadEdit.It w0 (W.drewN m) g2 g4 g5 g8 A n c at_ bad e0 e1 e2 vd D va B z := ⟨h.br, h.brd, h.be, h.bz, Kd.R_drewN h.rd m, Kd.R_drewN h.ra m, pw_below_drewN h.bel m⟩
theorem spec_ReadEdit.It.below (h : spec_ReadEdit.It w0 W g2 g4 g5 g8 A n c at_ bad e0 e1 e2 vd D va B z) (hb : Below W.heap.size W V) : spec_ReadEdit.It w0 V g2 g4 g5 g8 A n c at_ bad e0 e1 e2 vd D va B z := ⟨blk_below h.br hb, blk_below h.brd hb, blk_below h.be hb, blk_below h.bz hb, Kd.R_below h.rd hb, Kd.R_below h.ra hb, below_step h.bel hb⟩
theorem spec_ReadEdit.It.read (h : spec_ReadEdit.It w0 W g2 g4 g5 g8 A n c at_ bad e0 e1 e2 vd D va B z) (G : spec_ReadEdit.Gs w0 g2 g4 g5) (G8 : spec_ReadEdit.G8 w0 g2 g4 g5 g8) (k : spec_ReadEdit.Rs g4 W A n c at2 bad2 V) : spec_ReadEdit.It w0 V g2 g4 g5 g8 A n c at2 bad2 e0 e1 e2 vd D va B z :=
  ⟨k.step.blk h.br G.n24, k.blk, k.step.blk h.be G.n45.symm, k.step.blk h.bz G8.n48.symm, k.step.Rt h.rd h.brd (by decide), k.step.Rt h.ra h.brd (by decide), k.step.below h.bel G.m4⟩
/-- behind a store into the round's variable -/
theorem spec_ReadEdit.It.put (h : spec_ReadEdit.It w0 W g2 g4 g5 g8 A n c at_ bad e0 e1 e2 vd D va B z) (G8 : spec_ReadEdit.G8 w0 g2 g4 g5 g8) (on : On g8 W V) (hz : V.heap[g8]? = some (.cells #[.int .i64 y.f0, .int .i64 y.f1.f0, .string y.f1.f1, .string y.f1.f2, .int .i64 y.f1.f3] 75 (0, 0))) : spec_ReadEdit.It w0 V g2 g4 g5 g8 A n c at_ bad e0 e1 e2 vd D va B y :=
  ⟨on.blk h.br G8.n28, on.blk h.brd G8.n48, on.blk h.be G8.n58, hz, on.Rt h.rd h.bz (by decide), on.R h.ra (fun _ hk => hk), on.below h.bel G8.m8⟩
end
section
variable {w0 W V : World} {g2 g4 g5 g8 : Nat} {A : Option Addr} {n c : Nat} {at_ : Int} {bad : Bool} {e0 e1 e2 : Int} {vd va va2 : Value} {D : List Int} {B B2 : List S75} {z : S75}
/-- behind an append to the adds -/
theorem spec_ReadEdit.It.grownA (h : spec_ReadEdit.It w0 W g2 g4 g5 g8 A n c at_ bad e0 e1 e2 vd D va B z) (hg : W.grownBy V va.ownBlock) : V.heap[g2]? = some (.cells #[.int .i64 0, .int .i64 0, .int .i64 0, .slice none 0 0, .slice none 0 0] 26 (0, 0)) ∧ V.heap[g4]? = some (.cells #[.slice A n c, .int .i64 at_, .bool bad] 70 (0, 0)) ∧ V.heap[g5]? = some (.cells #[.int .i64 e0, .int .i64 e1, .int .i64 e2, vd, va] 26 (0, 0)) ∧ Kd.R (Kd.int .i64) 3 V w0.heap.size (fun _ => True) vd D :=
  ⟨blk_grown h.br hg (Kd.R_ne h.ra h.br (by decide)), blk_grown h.brd hg (Kd.R_ne h.ra h.brd (by decide)), blk_grown h.be hg (Kd.R_ne h.ra h.be (by decide)), Kd.R_over h.rd h.ra (by decide) hg⟩
end
theorem spec_ReadEdit.ints1 (W : World) (base : Nat) (ok : Nat → Prop) (a : Int) : Reps ((Kd.int .i64).M W base ok) (Kd.int .i64).sz [a] [.int .i64 a] := Reps.one (show Kd.M (Kd.int .i64) _ _ _ a [.int .i64 a] from rfl) (Reps.none _ _)
def spec_ReadEdit.drops (k : Nat) (l : List Int) : Nat → Int → List Int → Int → Bool → Option (List Int × Int × Bool)
  | 0, _, acc, a, b => some (acc, a, b)
  | m + 1, q, acc, a, b => if (decide (q > 0) && !b) = true then (spec_ReadEdit.num k l a b).bind fun p => spec_ReadEdit.drops k l m (wrap64 (q - 1)) (acc ++ [p.1]) p.2.1 p.2.2 else some (acc, a, b)
def spec_ReadEdit.adds (k : Nat) (l : List Int) : Nat → Int → List S75 → Int → Bool → Option (List S75 × Int × Bool)
  | 0, _, acc, a, b => some (acc, a, b)
  | m + 1, q, acc, a, b => if (decide (q > 0) && !b) = true then (spec_ReadEdit.num k l a b).bind fun p1 => (spec_ReadEdit.num k l p1.2.1 p1.2.2).bind fun p2 => (spec_ReadEdit.num k l p2.2.1 p2.2.2).bind fun p3 => (spec_ReadEdit.txt k l p3.2.1 p3.2.2).bind fun p4 => (spec_ReadEdit.txt k l p4.2.1 p4.2.2).bind fun p5 => spec_ReadEdit.adds k l m (wrap64 (q - 1)) (acc ++ [⟨p1.1, ⟨p2.1, p4.1, p5.1, p3.1⟩⟩]) p5.2.1 p5.2.2 else some (acc, a, b)
def spec_ReadEdit.g (k : Nat) (l : List Int) (x1 x2 x3 : Int) (D : List Int) (B : List S75 × Int × Bool) : Option (Int × Int × Int × List Int × List S75 × Bool) :=
  if B.2.2 = true then some (0, 0, 0, [], [], false) else if (decide (B.2.1 < (l.length : Int))) = true then some (0, 0, 0, [], [], false) else (spec_l9Edit.f k x1 x2 x3 D B.1).bind fun g => if g = true then some (x1, x2, x3, D, B.1, true) else some (0, 0, 0, [], [], false)
def spec_ReadEdit.f (k : Nat) (l0 : List Int) : Option (Int × Int × Int × List Int × List S75 × Bool) :=
  (spec_ReadEdit.num k l0 0 false).bind fun p1 => (spec_ReadEdit.num k l0 p1.2.1 p1.2.2).bind fun p2 => (spec_ReadEdit.num k l0 p2.2.1 p2.2.2).bind fun p3 => (spec_ReadEdit.num k l0 p3.2.1 p3.2.2).bind fun q1 => (spec_ReadEdit.drops k l0 30 q1.1 [] q1.2.1 q1.2.2).bind fun d => (spec_ReadEdit.num k l0 d.2.1 d.2.2).bind fun q2 => (spec_ReadEdit.adds k l0 30 q2.1 [] q2.2.1 q2.2.2).bind fun a => spec_ReadEdit.g k l0 p1.1 p2.1 p3.1 d.1 a
theorem spec_ReadEdit.num_mono (k : Nat) (l : List Int) (a : Int) (b : Bool) : LeO (spec_ReadEdit.num k l a b) (spec_ReadEdit.num (k + 1) l a b) := LeO.bind (spec_l1Var.mono _ _ _) (fun _ => LeO.refl _)
theorem spec_ReadEdit.txt_mono (k : Nat) (l : List Int) (a : Int) (b : Bool) : LeO (spec_ReadEdit.txt k l a b) (spec_ReadEdit.txt (k + 1) l a b) := LeO.bind (spec_ReadEdit.num_mono _ _ _ _) (fun _ => LeO.refl _)
theorem spec_ReadEdit.drops_mono (k : Nat) (l : List Int) : ∀ (m : Nat) (q : Int) (acc : List Int) (a : Int) (b : Bool), LeO (spec_ReadEdit.drops k l m q acc a b) (spec_ReadEdit.drops (k + 1) l m q acc a b)
  | 0, _, _, _, _ => LeO.refl _
  | m + 1, q, acc, a, b => LeO.ite (LeO.bind (spec_ReadEdit.num_mono _ _ _ _) (fun _ => spec_ReadEdit.drops_mono k l m _ _ _ _)) (LeO.refl _)
theorem spec_ReadEdit.adds_mono (k : Nat) (l : List Int) : ∀ (m : Nat) (q : Int) (acc : List S75) (a : Int) (b : Bool), LeO (spec_ReadEdit.adds k l m q acc a b) (spec_ReadEdit.adds (k + 1) l m q acc a b)
  | 0, _, _, _, _ => LeO.refl _
  | m + 1, q, acc, a, b => LeO.ite (LeO.bind (spec_ReadEdit.num_mono _ _ _ _) (fun _ => LeO.bind (spec_ReadEdit.num_mono _ _ _ _) (fun _ => LeO.bind (spec_ReadEdit.num_mono _ _ _ _) (fun _ => LeO.bind (spec_ReadEdit.txt_mono _ _ _ _) (fun _ => LeO.bind (spec_ReadEdit.txt_mono _ _ _ _) (fun _ => spec_ReadEdit.adds_mono k l m _ _ _ _)))))) (LeO.refl _)
theorem spec_ReadEdit.g_mono (k : Nat) (l : List Int) (x1 x2 x3 : Int) (D : List Int) (B : List S75 × Int × Bool) : LeO (spec_ReadEdit.g k l x1 x2 x3 D B) (spec_ReadEdit.g (k + 1) l x1 x2 x3 D B) := LeO.ite (LeO.refl _) (LeO.ite (LeO.refl _) (LeO.bind (spec_l9Edit.mono _ _ _ _ _ _) (fun _ => LeO.refl _)))
theorem spec_ReadEdit.mono : ∀ l0 k, LeO (spec_ReadEdit.f k l0) (spec_ReadEdit.f (k + 1) l0) := fun l0 k => LeO.bind (spec_ReadEdit.num_mono _ _ _ _) (fun _ => LeO.bind (spec_ReadEdit.num_mono _ _ _ _) (fun _ => LeO.bind (spec_ReadEdit.num_mono _ _ _ _) (fun _ => LeO.bind (spec_ReadEdit.num_mono _ _ _ _) (fun _ => LeO.bind (spec_ReadEdit.drops_mono _ _ _ _ _ _ _) (fun _ => LeO.bind (spec_ReadEdit.num_mono _ _ _ _) (fun _ => LeO.bind (spec_ReadEdit.adds_mono _ _ _ _ _ _ _) (fun _ => spec_ReadEdit.g_mono _ _ _ _ _ _ _)))))))
set_option maxHeartbeats 8000000 in
set_option maxRecDepth 100000 in
theorem spec_ReadEdit.calls (k : Nat) (A0 : Option Addr) (c0 : Nat) (l0 : List Int) (r1 : Int) (r2 : Int) (r3 : Int) (r4 : List Int) (r5 : List S75) (r6 : Bool) (w : World) (hr0 : Kd.C (Kd.int .u8) w A0 l0.length l0) (hc0 : l0.length ≤ c0) (h : spec_ReadEdit.f k l0 = some (r1, r2, r3, r4, r5, r6)) :
    Calls Try.prog 7 #[.slice A0 l0.length c0] w fun e w' => ∃ v3_ v4_ : Value, e = .returned (.tuple #[.agg #[.int .i64 r1, .int .i64 r2, .int .i64 r3, v3_, v4_], .bool r6]) ∧ Kd.R (Kd.int .i64) 3 w' w.heap.size (fun _ => True) v3_ r4 ∧ Kd.R k75 75 w' w.heap.size (fun _ => True) v4_ r5 ∧ Below w.heap.size w w' := by
  have hu26 := Try.underlying26
  have hu70 := Try.underlying70
  have hu75 := Try.underlying75
  unfold spec_ReadEdit.f at h
  replace h := Option.bind_eq_some_iff.mp h
  obtain ⟨⟨x1, a1, b1⟩, hA1, h⟩ := h
  replace h := Option.bind_eq_some_iff.mp h
  obtain ⟨⟨x2, a2, b2⟩, hA2, h⟩ := h
  replace h := Option.bind_eq_some_iff.mp h
  obtain ⟨⟨x3, a3, b3⟩, hA3, h⟩ := h
  replace h := Option.bind_eq_some_iff.mp h
  obtain ⟨⟨q1, a4, b4⟩, hA4, h⟩ := h
  replace h := Option.bind_eq_some_iff.mp h
  obtain ⟨⟨D, a5, b5⟩, hA5, h⟩ := h
  replace h := Option.bind_eq_some_iff.mp h
  obtain ⟨⟨q2, a6, b6⟩, hA6, h⟩ := h
  replace h := Option.bind_eq_some_iff.mp h
  obtain ⟨B, hA7, h⟩ := h
  dsimp only at hA1 hA2 hA3 hA4 hA5 hA6 hA7 h
  have A1 := Aside0.mk hA1
  have A2 := Aside0.mk hA2
  have A3 := Aside0.mk hA3
  have A4 := Aside0.mk hA4
  have A5 := Aside0.mk hA5
  have A6 := Aside0.mk hA6
  have A7 := Aside0.mk hA7
  have H := Aside0.mk h
  have HR0 := Aside0.mk hr0
  have HC0 := Aside0.mk hc0
  have HB := Aside0.mk (Below.refl w.heap.size w)
  clear hA1 hA2 hA3 hA4 hA5 hA6 hA7 h hr0 hc0
  go_enter Try.func7, Try.ntmps7
  go_upto_block 0 with (first | ((with_reducible refine gate_dst (N := 2) rfl ?_); refine box_event ?hg (N := 2) ?hd (cs := #[.int .i64 0, .int .i64 0, .int .i64 0, .slice none 0 0, .slice none 0 0]) (t := 26) ?hr ?_; (case hd => rfl); (case hg => rfl); (case hr => first | (go_simp; done) | (go_simp; rfl)); intro g2 hg w2 hbox hb; have GE2 := Aside0.mk (show w.heap.size ≤ g2 from (by rw [hg]; exact below_size (by with_reducible repeat (first | exact HB.out | apply below_alloc | apply pw_below_drewN | apply below_drew1)))); have BR := Aside0.mk hbox; have B2 := Aside0.mk (below_step (by with_reducible repeat (first | exact HB.out | apply below_alloc | apply pw_below_drewN | apply below_drew1)) hb); clear HB; have HB := B2; clear B2 hb hbox hg) | ((with_reducible refine gate_dst (N := 11) rfl ?_); refine box_event ?hg (N := 11) ?hd (cs := #[.slice A0 l0.length c0, .int .i64 0, .bool false]) (t := 70) ?hr ?_; (case hd => rfl); (case hg => rfl); (case hr => first | (go_simp; done) | (go_simp; rfl)); intro g4 hg w4 hbox hb; have GE4 := Aside0.mk (show w.heap.size ≤ g4 from (by rw [hg]; exact below_size (by with_reducible repeat (first | exact HB.out | apply below_alloc | apply pw_below_drewN | apply below_drew1)))); have N24 := Aside0.mk (show g2 ≠ g4 from (by rw [hg]; exact Nat.ne_of_lt (blk_lt (by (with_reducible repeat (first | refine blk_drewN ?_ _ | refine blk_drew ?_)); exact BR.out)))); have BRD := Aside0.mk hbox; have BR4 := Aside0.mk (blk_below (by (with_reducible repeat (first | refine blk_drewN ?_ _ | refine blk_drew ?_)); exact BR.out) hb); have B4 := Aside0.mk (below_step (by with_reducible repeat (first | exact HB.out | apply below_alloc | apply pw_below_drewN | apply below_drew1)) hb); clear HB BR; have HB := B4; have BR := BR4; clear B4 BR4 hb hbox hg) | ((with_reducible refine gate_callee (f := 36) rfl ?_); refine goesL_ (some 13) rfl rfl Try.func36 (by kernel_rfl) rfl #[.pointer (some ⟨g4, 0, none⟩)] rfl (by (try simp only [List.map_toArray, List.map_cons, List.map_nil]); first | done | rfl) ?_; (with_reducible refine (spec_ReadEdit.num_calls k l0 0 false x1 a1 b1 A0 c0 g4 _ (Kd.C_below HR0.out (by with_reducible repeat (first | exact HB.out | apply below_alloc | apply pw_below_drewN | apply below_drew1))) HC0.out (by (with_reducible repeat (first | refine blk_drewN ?_ _ | refine blk_drew ?_)); exact BRD.out) A1.out).mono ?_); rintro e w9 ⟨rfl, h9⟩; refine ⟨_, rfl, ?_⟩; have R9 := Aside0.mk (h9.step.blk (by (with_reducible repeat (first | refine blk_drewN ?_ _ | refine blk_drew ?_)); exact BR.out) N24.out); have D9 := Aside0.mk h9.blk; have B9 := Aside0.mk (h9.step.below (by with_reducible repeat (first | exact HB.out | apply below_alloc | apply pw_below_drewN | apply below_drew1)) GE4.out); clear HB BR BRD h9; have HB := B9; have BR := R9; have BRD := D9; clear B9 R9 D9) | ((with_reducible refine gate_callee (f := 36) rfl ?_); refine goesL_ (some 15) rfl rfl Try.func36 (by kernel_rfl) rfl #[.pointer (some ⟨g4, 0, none⟩)] rfl (by (try simp only [List.map_toArray, List.map_cons, List.map_nil]); first | done | rfl) ?_; (with_reducible refine (spec_ReadEdit.num_calls k l0 a1 b1 x2 a2 b2 A0 c0 g4 _ (Kd.C_below HR0.out (by with_reducible repeat (first | exact HB.out | apply below_alloc | apply pw_below_drewN | apply below_drew1))) HC0.out (by (with_reducible repeat (first | refine blk_drewN ?_ _ | refine blk_drew ?_)); exact BRD.out) A2.out).mono ?_); rintro e w9 ⟨rfl, h9⟩; refine ⟨_, rfl, ?_⟩; have R9 := Aside0.mk (h9.step.blk (by (with_reducible repeat (first | refine blk_drewN ?_ _ | refine blk_drew ?_)); exact BR.out) N24.out); have D9 := Aside0.mk h9.blk; have B9 := Aside0.mk (h9.step.below (by with_reducible repeat (first | exact HB.out | apply below_alloc | apply pw_below_drewN | apply below_drew1)) GE4.out); clear HB BR BRD h9; have HB := B9; have BR := R9; have BRD := D9; clear B9 R9 D9) | ((with_reducible refine gate_callee (f := 36) rfl ?_); refine goesL_ (some 17) rfl rfl Try.func36 (by kernel_rfl) rfl #[.pointer (some ⟨g4, 0, none⟩)] rfl (by (try simp only [List.map_toArray, List.map_cons, List.map_nil]); first | done | rfl) ?_; (with_reducible refine (spec_ReadEdit.num_calls k l0 a2 b2 x3 a3 b3 A0 c0 g4 _ (Kd.C_below HR0.out (by with_reducible repeat (first | exact HB.out | apply below_alloc | apply pw_below_drewN | apply below_drew1))) HC0.out (by (with_reducible repeat (first | refine blk_drewN ?_ _ | refine blk_drew ?_)); exact BRD.out) A3.out).mono ?_); rintro e w9 ⟨rfl, h9⟩; refine ⟨_, rfl, ?_⟩; have R9 := Aside0.mk (h9.step.blk (by (with_reducible repeat (first | refine blk_drewN ?_ _ | refine blk_drew ?_)); exact BR.out) N24.out); have D9 := Aside0.mk h9.blk; have B9 := Aside0.mk (h9.step.below (by with_reducible repeat (first | exact HB.out | apply below_alloc | apply pw_below_drewN | apply below_drew1)) GE4.out); clear HB BR BRD h9; have HB := B9; have BR := R9; have BRD := D9; clear B9 R9 D9) | ((with_reducible refine gate_dst (N := 5) rfl ?_); refine box_event ?hg (N := 5) ?hd (cs := #[.int .i64 0, .int .i64 0, .int .i64 0, .slice none 0 0, .slice none 0 0]) (t := 26) ?hr ?_; (case hd => rfl); (case hg => rfl); (case hr => first | (go_simp; done) | (go_simp; rfl)); intro g5 hg w5 hbox hb; have GS := Aside0.mk (⟨GE2.out, GE4.out, by rw [hg]; exact below_size (by with_reducible repeat (first | exact HB.out | apply below_alloc | apply pw_below_drewN | apply below_drew1)), N24.out, by rw [hg]; exact Nat.ne_of_lt (blk_lt (by (with_reducible repeat (first | refine blk_drewN ?_ _ | refine blk_drew ?_)); exact BR.out)), by rw [hg]; exact Nat.ne_of_lt (blk_lt (by (with_reducible repeat (first | refine blk_drewN ?_ _ | refine blk_drew ?_)); exact BRD.out))⟩ : spec_ReadEdit.Gs w g2 g4 g5); have BX := Aside0.mk hbox; have R9 := Aside0.mk (blk_below (by (with_reducible repeat (first | refine blk_drewN ?_ _ | refine blk_drew ?_)); exact BR.out) hb); have D9 := Aside0.mk (blk_below (by (with_reducible repeat (first | refine blk_drewN ?_ _ | refine blk_drew ?_)); exact BRD.out) hb); have B9 := Aside0.mk (below_step (by with_reducible repeat (first | exact HB.out | apply below_alloc | apply pw_below_drewN | apply below_drew1)) hb); have hq := c5 hbox; have hf := f5 hbox; clear HB BR BRD GE2 GE4 N24; have HB := B9; have BR := R9; have BRD := D9; clear B9 R9 D9 hb hbox hg) | ((with_reducible refine gate_store (t := 26) (p := 5) rfl ?_); refine store_event (t := 26) (p := 5) (v := ?vo_9001) (w1 := setAll w5 g5 0 [.int .i64 x1, .int .i64 x2, .int .i64 x3, .slice none 0 0, .slice none 0 0]) ?hg ?ho ?hn ?hr ?_; (case ho => rfl); (case hg => rfl); (case hn => rfl); (case hr => first | (go_simp; done) | (go_simp; rfl)); intro w6 hw; have on_ : On g5 w5 w6 := (by rw [hw]; exact setAll_on _ _ _ _); have bk_ : w6.heap[g5]? = some (.cells #[.int .i64 x1, .int .i64 x2, .int .i64 x3, .slice none 0 0, .slice none 0 0] 26 (0, 0)) := (by rw [hw]; exact setAll_blk _ BX.out rfl); have S := Aside0.mk (⟨on_.blk BR.out GS.out.n25, on_.blk BRD.out GS.out.n45, bk_, Kd.R_nil _ _ _ _ _, Kd.R_nil _ _ _ _ _, on_.below HB.out GS.out.m5⟩ : spec_ReadEdit.St w w6 g2 g4 g5 A0 l0.length c0 a3 b3 x1 x2 x3 (.slice none 0 0) [] (.slice none 0 0) []); clear hw on_ bk_ BX HB BR BRD hq hf) | ((with_reducible refine gate_callee (f := 36) rfl ?_); refine goesL_ (some 20) rfl rfl Try.func36 (by kernel_rfl) rfl #[.pointer (some ⟨g4, 0, none⟩)] rfl (by (try simp only [List.map_toArray, List.map_cons, List.map_nil]); first | done | rfl) ?_; (with_reducible refine (spec_ReadEdit.num_calls k l0 a3 b3 q1 a4 b4 A0 c0 g4 _ (Kd.C_below HR0.out (spec_ReadEdit.St.bel (by with_reducible repeat (first | exact S.out | apply spec_ReadEdit.St.drewN | apply spec_ReadEdit.St.drew)))) HC0.out (spec_ReadEdit.St.brd (by with_reducible repeat (first | exact S.out | apply spec_ReadEdit.St.drewN | apply spec_ReadEdit.St.drew))) A4.out).mono ?_); rintro e w9 ⟨rfl, h9⟩; refine ⟨_, rfl, ?_⟩; have S9 := Aside0.mk (spec_ReadEdit.St.read (by with_reducible repeat (first | exact S.out | apply spec_ReadEdit.St.drewN | apply spec_ReadEdit.St.drew)) GS.out h9); clear S h9; have S := S9; clear S9))
  go_cut [] (fun wc => ∃ vd : Value, Aside0 (spec_ReadEdit.St w wc g2 g4 g5 A0 l0.length c0 a5 b5 x1 x2 x3 vd D (.slice none 0 0) []))
  case first =>
    go_wp2
    go_loopg [6] 30 (fun gg v6 w' => ∃ (m : Nat) (q : Int) (vd : Value) (acc : List Int) (a : Int) (b : Bool), m ≤ 30 ∧ m ≤ gg ∧ v6 = .int .i64 q ∧ Aside0 (acc.length = 30 - m) ∧ Aside0 (spec_ReadEdit.drops k l0 m q acc a b = some (D, a5, b5)) ∧ Aside0 (spec_ReadEdit.St w w' g2 g4 g5 A0 l0.length c0 a b x1 x2 x3 vd acc (.slice none 0 0) []))
    case atStart => exact ⟨30, q1, .slice none 0 0, [], a4, b4, Nat.le_refl _, by omega, rfl, ⟨rfl⟩, A5, ⟨by with_reducible repeat (first | exact S.out | apply spec_ReadEdit.St.drewN | apply spec_ReadEdit.St.drew)⟩⟩
    case round =>
      clear S A1 A2 A3 A4 A5
      obtain ⟨m, q, vd, acc, a, b, hm, hg, rfl, LA, HD, S⟩ := hrel
      obtain ⟨Ad, cd, ed⟩ := Kd.R_slice S.out.rd
      subst ed
      have hq3 := c3 S.out.brd
      have hq5 := c5 S.out.be
      have hend : ∀ (D' : List Int) (a' : Int) (b' : Bool), some (acc, a, b) = some (D', a', b') → acc = D' ∧ a = a' ∧ b = b' := fun D' a' b' h => by injection h with h; injection h with h1 h; injection h with h2 h3; exact ⟨h1, h2, h3⟩
      by_cases hgo : m ≠ 0 ∧ q > 0 ∧ b = false
      · obtain ⟨hm0, hqp, rfl⟩ := hgo
        have hqb : decide (q > 0) = true := decide_eq_true hqp
        have hl30 : ((acc.length : Nat) : Int) < 30 := by have := LA.out; omega
        obtain ⟨m, rfl⟩ : ∃ m', m = m' + 1 := ⟨m - 1, by omega⟩
        have h := HD.out
        simp only [spec_ReadEdit.drops] at h
        rw [if_pos (by rw [hqb]; rfl)] at h
        replace h := Option.bind_eq_some_iff.mp h
        obtain ⟨⟨x, ax, bx⟩, hv, h⟩ := h
        dsimp only at h
        have HV := Aside0.mk hv
        obtain ⟨y6, hy6⟩ : ∃ y : List Int, y = acc ++ [x] := ⟨_, rfl⟩
        rw [← hy6] at h
        have HN2 := Aside0.mk h
        have Ny6 := Aside0.mk hy6
        clear hend hm0 hqp hv h HD hy6
        go_wp2
        have S5 := Aside0.mk (spec_ReadEdit.St.drew S.out)
        refine start_ (n := 8) (S := fun w' => w'.cell? ⟨g5, 3, none⟩ = some (.slice Ad acc.length cd)) (ds := [7]) #[false, false, false, false, false, false, false, false] (by kernel_rfl) rfl rfl ((blk_cell S5.out.be 3).trans rfl) (fun hHeld => ?_)
        clear S hq3 hq5
        generalize wr.drew = w5 at S5 hHeld ⊢
        refine pure_ (i := 0) (N := some 38) (v := ?_) (a' := ?_) #[true, false, false, false, false, false, false, false] rfl rfl (by kernel_rfl) (fun _ _ _ h => h) (Or.inl ⟨by rfl, ?_⟩) ?_ ?_
        rotate_left
        · intro w'
          go_simp
          with_reducible rfl
        rotate_left
        · simp only [Act.put, List.setIfInBounds_toArray, List.set_cons_zero, List.set_cons_succ, i64_w, i32_w]
          rfl
        refine take_ (i := 1) (N := some 39) (v := ?_) (a' := ?_) #[true, true, false, false, false, false, false, false] rfl rfl (by kernel_rfl) (fun _ _ _ h => h) (Or.inl ⟨by rfl, ?_⟩) hHeld ?_ ?_
        rotate_left
        · rintro w' s0
          go_simp
          with_reducible rfl
        rotate_left
        · simp only [Act.put, List.setIfInBounds_toArray, List.set_cons_zero, List.set_cons_succ, i64_w, i32_w]
          rfl
        refine pure_ (i := 2) (N := some 40) (v := ?_) (a' := ?_) #[true, true, true, false, false, false, false, false] rfl rfl (by kernel_rfl) (fun _ _ _ h => h) (Or.inl ⟨by rfl, ?_⟩) ?_ ?_
        rotate_left
        · intro w'
          go_simp
          with_reducible rfl
        rotate_left
        · simp only [Act.put, List.setIfInBounds_toArray, List.set_cons_zero, List.set_cons_succ, i64_w, i32_w]
          rfl
        refine one_ (i := 3) (N := some 41) #[true, true, true, true, false, false, false, false] rfl rfl (by kernel_rfl) (by decide) (fun K hK => ?_)
        refine goes_ Try.func36 (by kernel_rfl) rfl #[.pointer (some ⟨g4, 0, none⟩)] (by rfl) rfl rfl (by (try simp only [List.map_toArray, List.map_cons, List.map_nil]); first | done | rfl) ?_
        with_reducible refine (spec_ReadEdit.num_calls k l0 a false x ax bx A0 c0 g4 _ (Kd.C_below HR0.out S5.out.bel) HC0.out S5.out.brd HV.out).mono ?_
        rintro e w6 ⟨rfl, h9⟩
        refine ⟨_, rfl, ?_⟩
        have S6 := Aside0.mk (spec_ReadEdit.St.read S5.out GS.out h9)
        clear h9 S5
        refine hK.out _ _ ((blk_cell S6.out.be 3).trans rfl) (fun hHeld => ?_)
        clear hK K
        refine norm_ (a' := ?_) ?_ ?_
        rotate_left
        · show Act.put _ (some 41) _ = _
          simp only [Act.put, List.setIfInBounds_toArray, List.set_cons_zero, List.set_cons_succ, i64_w, i32_w]
          rfl
        refine one_ (i := 4) (N := some 42) #[true, true, true, true, true, false, false, false] rfl rfl (by kernel_rfl) (by decide) (fun K hK => ?_)
        refine Kd.R_lit_step (Kd.int .i64) _ 3 (by rfl) (N := 42) rfl (xs := [x]) (inner := [.int .i64 x]) (ok := fun _ => True) (okp := fun _ => True) ?hr7 (spec_ReadEdit.ints1 _ _ _ _) (fun _ hk => hk) trivial (Below.refl _ _) (Nat.le_refl _) (by simp) ?_
        (case hr7 => first | (go_simp; done) | (go_simp; rfl))
        intro v7 w7 ho7 hb7 hg7 hn7
        have S7 := Aside0.mk (spec_ReadEdit.St.below S6.out hb7)
        obtain ⟨A7, c7_, e7⟩ := Kd.R_slice ho7
        subst e7
        have HL7 := Aside0.mk ho7
        clear ho7 hb7 hg7 hn7 S6
        refine hK.out _ _ ((blk_cell S7.out.be 3).trans rfl) (fun hHeld => ?_)
        clear hK K
        refine norm_ (a' := ?_) ?_ ?_
        rotate_left
        · show Act.put _ (some 42) _ = _
          simp only [Act.put, List.setIfInBounds_toArray, List.set_cons_zero, List.set_cons_succ, i64_w, i32_w]
          rfl
        refine one_ (i := 5) (N := some 43) #[true, true, true, true, true, true, false, false] rfl rfl (by kernel_rfl) (by decide) (fun K hK => ?_)
        refine Kd.R_append_rows_step (Kd.int .i64) (w0 := w) w.heap.size (by rfl) (.tmp 39) (.tmp 42) 23 3 (.int .i64 0) 8 rfl Try.underlying23 info3 rfl (by decide) (by omega) (.slice Ad acc.length cd) acc [x] _ _ _ (fun _ => True) (fun _ => False) rfl rfl ?aO ?aR (fun _ _ h => h) (fun _ h => h.elim) ?aF ?aB ?aS ?aL ?_
        (case aR => exact (Kd.R_reads' HL7.out).2.2)
        (case aB => exact S7.out.bel)
        (case aF => exact (fun _ _ => trivial))
        (case aO => exact S7.out.rd)
        (case aS => exact below_size S7.out.bel)
        (case aL => have := LA.out; simp only [List.length_cons, List.length_nil]; omega)
        intro v8 w8 ho8 hb8 hg8 hat8
        rw [← Ny6.out] at ho8
        obtain ⟨z1, z2, z3, z4⟩ := spec_ReadEdit.St.grownD S7.out hg8 hb8 ho8
        obtain ⟨A8, c8_, e8⟩ := Kd.R_slice ho8
        subst e8
        have hc8 : w8.cell? ⟨g5, 3, none⟩ = some (.slice Ad acc.length cd) := (blk_cell z3 3).trans rfl
        have hf8 : w8.frozen? ⟨g5, 3, none⟩ = false := blk_frozen z3 3
        have on9 := (On.refl g5 w8).set 3 (.slice A8 y6.length c8_)
        have S9 := Aside0.mk (⟨on9.blk z1 GS.out.n25, on9.blk z2 GS.out.n45, blk_put z3 3 _ rfl, on9.Rt ho8 z3 (by decide), on9.Rt z4 z3 (by decide), on9.below hb8 GS.out.m5⟩ : spec_ReadEdit.St w (w8.setCell ⟨g5, 3, none⟩ (.slice A8 y6.length c8_)) g2 g4 g5 A0 l0.length c0 ax bx x1 x2 x3 (.slice A8 y6.length c8_) y6 (.slice none 0 0) [])
        clear ho8 hb8 hg8 hat8 z1 z2 z3 z4 on9 S7 HL7
        refine hK.out _ _ hc8 (fun hHeld => ?_)
        clear hK K
        refine norm_ (a' := ?_) ?_ ?_
        rotate_left
        · show Act.put _ (some 43) _ = _
          simp only [Act.put, List.setIfInBounds_toArray, List.set_cons_zero, List.set_cons_succ, i64_w, i32_w]
          rfl
        refine pure_ (i := 6) (N := some 44) (v := ?_) (a' := ?_) #[true, true, true, true, true, true, true, false] rfl rfl (by kernel_rfl) (fun _ _ _ h => h) (Or.inl ⟨by rfl, ?_⟩) ?_ ?_
        rotate_left
        · intro w'
          go_simp
          with_reducible rfl
        rotate_left
        · simp only [Act.put, List.setIfInBounds_toArray, List.set_cons_zero, List.set_cons_succ, i64_w, i32_w]
          rfl
        refine last_ (i := 7) (N := none) #[true, true, true, true, true, true, true, true] rfl rfl (by kernel_rfl) (by decide) (fun K hK => ?_)
        refine skip_ (w1 := ?_) (by rfl) rfl ?_ ?_
        rotate_left
        · go_simp
          rfl
        refine hK.out _ _ ?_
        clear hK K
        refine done_ (by kernel_rfl) ?_
        clear hHeld hc8 hf8
        go_wp2
        go_roundg m
        case measure => omega
        case rel => exact ⟨m, _, _, y6, ax, bx, by omega, by omega, rfl, ⟨by rw [Ny6.out, List.length_append, LA.out]; simp; omega⟩, HN2, ⟨by with_reducible repeat (first | exact S9.out | apply spec_ReadEdit.St.drewN | apply spec_ReadEdit.St.drew)⟩⟩
      · have hx : some (acc, a, b) = some (D, a5, b5) := by
          have h := HD.out
          cases m with
          | zero => exact h
          | succ m =>
            simp only [spec_ReadEdit.drops] at h
            rw [if_neg (by
              intro h2
              simp only [Bool.and_eq_true, decide_eq_true_eq, Bool.not_eq_true'] at h2
              exact hgo ⟨by omega, h2.1, h2.2⟩)] at h
            exact h
        obtain ⟨rfl, rfl, rfl⟩ := hend _ _ _ hx
        clear hend hx HD
        cases hqp : decide (q > 0) with
        | false =>
          clear hgo
          go_wp2
          go_meet
          exact ⟨_, ⟨by with_reducible repeat (first | exact S.out | apply spec_ReadEdit.St.drewN | apply spec_ReadEdit.St.drew)⟩⟩
        | true =>
          cases b with
          | true =>
            clear hgo
            go_wp2
            go_meet
            exact ⟨_, ⟨by with_reducible repeat (first | exact S.out | apply spec_ReadEdit.St.drewN | apply spec_ReadEdit.St.drew)⟩⟩
          | false =>
            have hm0 : m = 0 := by
              apply Classical.byContradiction
              intro h
              exact hgo ⟨h, of_decide_eq_true hqp, rfl⟩
            have hl30 : ¬ ((acc.length : Nat) : Int) < 30 := by have := LA.out; omega
            clear hgo
            go_wp2
            go_meet
            exact ⟨_, ⟨by with_reducible repeat (first | exact S.out | apply spec_ReadEdit.St.drewN | apply spec_ReadEdit.St.drew)⟩⟩
  case rest =>
    obtain ⟨vd, SC⟩ := hcut
    clear S A1 A2 A3 A4 A5
    go_upto_block 2 with (first | ((with_reducible refine gate_callee (f := 36) rfl ?_); refine goesL_ (some 46) rfl rfl Try.func36 (by kernel_rfl) rfl #[.pointer (some ⟨g4, 0, none⟩)] rfl (by (try simp only [List.map_toArray, List.map_cons, List.map_nil]); first | done | rfl) ?_; (with_reducible refine (spec_ReadEdit.num_calls k l0 a5 b5 q2 a6 b6 A0 c0 g4 _ (Kd.C_below HR0.out (spec_ReadEdit.St.bel (by with_reducible repeat (first | exact SC.out | apply spec_ReadEdit.St.drewN | apply spec_ReadEdit.St.drew)))) HC0.out (spec_ReadEdit.St.brd (by with_reducible repeat (first | exact SC.out | apply spec_ReadEdit.St.drewN | apply spec_ReadEdit.St.drew))) A6.out).mono ?_); rintro e w9 ⟨rfl, h9⟩; refine ⟨_, rfl, ?_⟩; have S9 := Aside0.mk (spec_ReadEdit.St.read (by with_reducible repeat (first | exact SC.out | apply spec_ReadEdit.St.drewN | apply spec_ReadEdit.St.drew)) GS.out h9); clear SC h9; have S := S9; clear S9))
    go_cut [] (fun wc => ∃ va : Value, Aside0 (spec_ReadEdit.St w wc g2 g4 g5 A0 l0.length c0 B.2.1 B.2.2 x1 x2 x3 vd D va B.1))
    case first =>
      go_wp2
      go_loopg [7] 30 (fun gg v7 w' => ∃ (m : Nat) (q : Int) (va : Value) (acc : List S75) (a : Int) (b : Bool), m ≤ 30 ∧ m ≤ gg ∧ v7 = .int .i64 q ∧ Aside0 (acc.length = 30 - m) ∧ Aside0 (spec_ReadEdit.adds k l0 m q acc a b = some B) ∧ Aside0 (spec_ReadEdit.St w w' g2 g4 g5 A0 l0.length c0 a b x1 x2 x3 vd D va acc))
      case atStart => exact ⟨30, q2, .slice none 0 0, [], a6, b6, Nat.le_refl _, by omega, rfl, ⟨rfl⟩, A7, ⟨by with_reducible repeat (first | exact S.out | apply spec_ReadEdit.St.drewN | apply spec_ReadEdit.St.drew)⟩⟩
      case round =>
        clear S A6 A7
        obtain ⟨m, q, va, acc, a, b, hm, hg, rfl, LA, HD, S⟩ := hrel
        obtain ⟨Ad, cd, ed⟩ := Kd.R_slice S.out.ra
        subst ed
        have hq3 := c3 S.out.brd
        have hq5 := c5 S.out.be
        by_cases hgo : m ≠ 0 ∧ q > 0 ∧ b = false
        · obtain ⟨hm0, hqp, rfl⟩ := hgo
          have hqb : decide (q > 0) = true := decide_eq_true hqp
          have hl30 : ((acc.length : Nat) : Int) < 30 := by have := LA.out; omega
          obtain ⟨m, rfl⟩ : ∃ m', m = m' + 1 := ⟨m - 1, by omega⟩
          have h := HD.out
          simp only [spec_ReadEdit.adds] at h
          rw [if_pos (by rw [hqb]; rfl)] at h
          replace h := Option.bind_eq_some_iff.mp h
          obtain ⟨⟨y1, u1, v1⟩, hv1, h⟩ := h
          replace h := Option.bind_eq_some_iff.mp h
          obtain ⟨⟨y2, u2, v2⟩, hv2, h⟩ := h
          replace h := Option.bind_eq_some_iff.mp h
          obtain ⟨⟨y3, u3, v3⟩, hv3, h⟩ := h
          replace h := Option.bind_eq_some_iff.mp h
          obtain ⟨⟨y4, u4, v4⟩, hv4, h⟩ := h
          replace h := Option.bind_eq_some_iff.mp h
          obtain ⟨⟨y5, u5, v5⟩, hv5, h⟩ := h
          dsimp only at hv1 hv2 hv3 hv4 hv5 h
          have V1 := Aside0.mk hv1
          have V2 := Aside0.mk hv2
          have V3 := Aside0.mk hv3
          have V4 := Aside0.mk hv4
          have V5 := Aside0.mk hv5
          obtain ⟨Y, hY⟩ : ∃ y : List S75, y = acc ++ [⟨y1, ⟨y2, y4, y5, y3⟩⟩] := ⟨_, rfl⟩
          rw [← hY] at h
          have HN2 := Aside0.mk h
          have NY := Aside0.mk hY
          clear hm0 hqp hv1 hv2 hv3 hv4 hv5 h HD hY
          go_wp2_with (first | ((with_reducible refine gate_callee (f := 36) rfl ?_); refine goesL_ (some 65) rfl rfl Try.func36 (by kernel_rfl) rfl #[.pointer (some ⟨g4, 0, none⟩)] rfl (by (try simp only [List.map_toArray, List.map_cons, List.map_nil]); first | done | rfl) ?_; (with_reducible refine (spec_ReadEdit.num_calls k l0 a false y1 u1 v1 A0 c0 g4 _ (Kd.C_below HR0.out (spec_ReadEdit.St.bel (by with_reducible repeat (first | exact S.out | apply spec_ReadEdit.St.drewN | apply spec_ReadEdit.St.drew)))) HC0.out (spec_ReadEdit.St.brd (by with_reducible repeat (first | exact S.out | apply spec_ReadEdit.St.drewN | apply spec_ReadEdit.St.drew))) V1.out).mono ?_); rintro e w9 ⟨rfl, h9⟩; refine ⟨_, rfl, ?_⟩; have S9 := Aside0.mk (spec_ReadEdit.St.read (by with_reducible repeat (first | exact S.out | apply spec_ReadEdit.St.drewN | apply spec_ReadEdit.St.drew)) GS.out h9); clear S h9; have S := S9; clear S9) | ((with_reducible refine gate_dst (N := 8) rfl ?_); refine box_event ?hg (N := 8) ?hd (cs := #[.int .i64 0, .int .i64 0, .string ⟨#[]⟩, .string ⟨#[]⟩, .int .i64 0]) (t := 75) ?hr ?_; (case hd => rfl); (case hg => rfl); (case hr => first | (go_simp; done) | (go_simp; rfl)); intro g8 hg w5 hbox hb; have G8 := Aside0.mk (⟨by rw [hg]; exact below_size (spec_ReadEdit.St.bel (by with_reducible repeat (first | exact S.out | apply spec_ReadEdit.St.drewN | apply spec_ReadEdit.St.drew))), by rw [hg]; exact Nat.ne_of_lt (blk_lt (spec_ReadEdit.St.br (by with_reducible repeat (first | exact S.out | apply spec_ReadEdit.St.drewN | apply spec_ReadEdit.St.drew)))), by rw [hg]; exact Nat.ne_of_lt (blk_lt (spec_ReadEdit.St.brd (by with_reducible repeat (first | exact S.out | apply spec_ReadEdit.St.drewN | apply spec_ReadEdit.St.drew)))), by rw [hg]; exact Nat.ne_of_lt (blk_lt (spec_ReadEdit.St.be (by with_reducible repeat (first | exact S.out | apply spec_ReadEdit.St.drewN | apply spec_ReadEdit.St.drew))))⟩ : spec_ReadEdit.G8 w g2 g4 g5 g8); have I := Aside0.mk ((by have S9 := spec_ReadEdit.St.below (by with_reducible repeat (first | exact S.out | apply spec_ReadEdit.St.drewN | apply spec_ReadEdit.St.drew)) hb; exact ⟨S9.br, S9.brd, S9.be, hbox, S9.rd, Kd.R_mono (Kd.R_below (Kd.R_elderB (spec_ReadEdit.St.ra (by with_reducible repeat (first | exact S.out | apply spec_ReadEdit.St.drewN | apply spec_ReadEdit.St.drew))) g8 (Nat.le_of_eq hg.symm)) hb) (fun _ hk => hk.2), S9.bel⟩) : spec_ReadEdit.It w w5 g2 g4 g5 g8 A0 l0.length c0 u1 v1 x1 x2 x3 vd D (.slice Ad acc.length cd) acc ⟨0, ⟨0, ⟨#[]⟩, ⟨#[]⟩, 0⟩⟩); have hz5 := c5 hbox; have hf5 := f5 hbox; clear S hg hbox hb) | ((with_reducible refine gate_store (t := 75) (p := 8) rfl ?_); refine store_event (t := 75) (p := 8) (v := ?vo_9002) (w1 := setAll w5 g8 0 [.int .i64 y1, .int .i64 0, .string ⟨#[]⟩, .string ⟨#[]⟩, .int .i64 0]) ?hg ?ho ?hn ?hr ?_; (case ho => rfl); (case hg => rfl); (case hn => rfl); (case hr => first | (go_simp; done) | (go_simp; rfl)); intro w6 hw; have I9 := Aside0.mk ((by rw [hw]; exact spec_ReadEdit.It.put I.out G8.out (setAll_on _ _ _ _) (setAll_blk _ I.out.bz rfl)) : spec_ReadEdit.It w w6 g2 g4 g5 g8 A0 l0.length c0 u1 v1 x1 x2 x3 vd D (.slice Ad acc.length cd) acc ⟨y1, ⟨0, ⟨#[]⟩, ⟨#[]⟩, 0⟩⟩); clear hw I hz5 hf5; have I := I9; clear I9) | ((with_reducible refine gate_callee (f := 36) rfl ?_); refine goesL_ (some 68) rfl rfl Try.func36 (by kernel_rfl) rfl #[.pointer (some ⟨g4, 0, none⟩)] rfl (by (try simp only [List.map_toArray, List.map_cons, List.map_nil]); first | done | rfl) ?_; (with_reducible refine (spec_ReadEdit.num_calls k l0 u1 v1 y2 u2 v2 A0 c0 g4 _ (Kd.C_below HR0.out (spec_ReadEdit.It.bel (by with_reducible repeat (first | exact I.out | apply spec_ReadEdit.It.drewN | apply spec_ReadEdit.It.drew)))) HC0.out (spec_ReadEdit.It.brd (by with_reducible repeat (first | exact I.out | apply spec_ReadEdit.It.drewN | apply spec_ReadEdit.It.drew))) V2.out).mono ?_); rintro e w9 ⟨rfl, h9⟩; refine ⟨_, rfl, ?_⟩; have I9 := Aside0.mk (spec_ReadEdit.It.read (by with_reducible repeat (first | exact I.out | apply spec_ReadEdit.It.drewN | apply spec_ReadEdit.It.drew)) GS.out G8.out h9); clear I h9; have I := I9; clear I9; have hz5 := c5 I.out.bz; have hf5 := f5 I.out.bz) | ((with_reducible refine gate_store (t := 3) (p := 70) rfl ?_); refine store_event (t := 3) (p := 70) (v := ?vo_9003) (w1 := w9.setCell ⟨g8, 1, none⟩ (.int .i64 y2)) ?hg ?ho ?hn ?hr ?_; (case ho => rfl); (case hg => rfl); (case hn => rfl); (case hr => first | (go_simp; done) | (go_simp; rfl)); intro w11 hw; have I9 := Aside0.mk ((by rw [hw]; exact spec_ReadEdit.It.put (y := ⟨y1, ⟨y2, ⟨#[]⟩, ⟨#[]⟩, 0⟩⟩) I.out G8.out ((On.refl g8 _).set 1 _) (blk_put I.out.bz 1 _ rfl)) : spec_ReadEdit.It w w11 g2 g4 g5 g8 A0 l0.length c0 _ _ x1 x2 x3 vd D (.slice Ad acc.length cd) acc ⟨y1, ⟨y2, ⟨#[]⟩, ⟨#[]⟩, 0⟩⟩); clear hw I hz5 hf5; have I := I9; clear I9) | ((with_reducible refine gate_callee (f := 36) rfl ?_); refine goesL_ (some 72) rfl rfl Try.func36 (by kernel_rfl) rfl #[.pointer (some ⟨g4, 0, none⟩)] rfl (by (try simp only [List.map_toArray, List.map_cons, List.map_nil]); first | done | rfl) ?_; (with_reducible refine (spec_ReadEdit.num_calls k l0 u2 v2 y3 u3 v3 A0 c0 g4 _ (Kd.C_below HR0.out (spec_ReadEdit.It.bel (by with_reducible repeat (first | exact I.out | apply spec_ReadEdit.It.drewN | apply spec_ReadEdit.It.drew)))) HC0.out (spec_ReadEdit.It.brd (by with_reducible repeat (first | exact I.out | apply spec_ReadEdit.It.drewN | apply spec_ReadEdit.It.drew))) V3.out).mono ?_); rintro e w9 ⟨rfl, h9⟩; refine ⟨_, rfl, ?_⟩; have I9 := Aside0.mk (spec_ReadEdit.It.read (by with_reducible repeat (first | exact I.out | apply spec_ReadEdit.It.drewN | apply spec_ReadEdit.It.drew)) GS.out G8.out h9); clear I h9; have I := I9; clear I9; have hz5 := c5 I.out.bz; have hf5 := f5 I.out.bz) | ((with_reducible refine gate_store (t := 3) (p := 74) rfl ?_); refine store_event (t := 3) (p := 74) (v := ?vo_9004) (w1 := w9.setCell ⟨g8, 4, none⟩ (.int .i64 y3)) ?hg ?ho ?hn ?hr ?_; (case ho => rfl); (case hg => rfl); (case hn => rfl); (case hr => first | (go_simp; done) | (go_simp; rfl)); intro w12 hw; have I9 := Aside0.mk ((by rw [hw]; exact spec_ReadEdit.It.put (y := ⟨y1, ⟨y2, ⟨#[]⟩, ⟨#[]⟩, y3⟩⟩) I.out G8.out ((On.refl g8 _).set 4 _) (blk_put I.out.bz 4 _ rfl)) : spec_ReadEdit.It w w12 g2 g4 g5 g8 A0 l0.length c0 _ _ x1 x2 x3 vd D (.slice Ad acc.length cd) acc ⟨y1, ⟨y2, ⟨#[]⟩, ⟨#[]⟩, y3⟩⟩); clear hw I hz5 hf5; have I := I9; clear I9) | ((with_reducible refine gate_callee (f := 37) rfl ?_); refine goesL_ (some 76) rfl rfl Try.func37 (by kernel_rfl) rfl #[.pointer (some ⟨g4, 0, none⟩)] rfl (by (try simp only [List.map_toArray, List.map_cons, List.map_nil]); first | done | rfl) ?_; (with_reducible refine (spec_ReadEdit.txt_calls k l0 u3 v3 y4 u4 v4 A0 c0 g4 _ (fun V hV => Kd.C_below HR0.out (hV.below (spec_ReadEdit.It.bel (by with_reducible repeat (first | exact I.out | apply spec_ReadEdit.It.drewN | apply spec_ReadEdit.It.drew))) GS.out.m4)) HC0.out (spec_ReadEdit.It.brd (by with_reducible repeat (first | exact I.out | apply spec_ReadEdit.It.drewN | apply spec_ReadEdit.It.drew))) V4.out).mono ?_); rintro e w9 ⟨rfl, h9⟩; refine ⟨_, rfl, ?_⟩; have I9 := Aside0.mk (spec_ReadEdit.It.read (by with_reducible repeat (first | exact I.out | apply spec_ReadEdit.It.drewN | apply spec_ReadEdit.It.drew)) GS.out G8.out h9); clear I h9; have I := I9; clear I9; have hz5 := c5 I.out.bz; have hf5 := f5 I.out.bz) | ((with_reducible refine gate_store (t := 9) (p := 78) rfl ?_); refine store_event (t := 9) (p := 78) (v := ?vo_9005) (w1 := w9.setCell ⟨g8, 2, none⟩ (.string y4)) ?hg ?ho ?hn ?hr ?_; (case ho => rfl); (case hg => rfl); (case hn => rfl); (case hr => first | (go_simp; done) | (go_simp; rfl)); intro w13 hw; have I9 := Aside0.mk ((by rw [hw]; exact spec_ReadEdit.It.put (y := ⟨y1, ⟨y2, y4, ⟨#[]⟩, y3⟩⟩) I.out G8.out ((On.refl g8 _).set 2 _) (blk_put I.out.bz 2 _ rfl)) : spec_ReadEdit.It w w13 g2 g4 g5 g8 A0 l0.length c0 _ _ x1 x2 x3 vd D (.slice Ad acc.length cd) acc ⟨y1, ⟨y2, y4, ⟨#[]⟩, y3⟩⟩); clear hw I hz5 hf5; have I := I9; clear I9) | ((with_reducible refine gate_callee (f := 37) rfl ?_); refine goesL_ (some 80) rfl rfl Try.func37 (by kernel_rfl) rfl #[.pointer (some ⟨g4, 0, none⟩)] rfl (by (try simp only [List.map_toArray, List.map_cons, List.map_nil]); first | done | rfl) ?_; (with_reducible refine (spec_ReadEdit.txt_calls k l0 u4 v4 y5 u5 v5 A0 c0 g4 _ (fun V hV => Kd.C_below HR0.out (hV.below (spec_ReadEdit.It.bel (by with_reducible repeat (first | exact I.out | apply spec_ReadEdit.It.drewN | apply spec_ReadEdit.It.drew))) GS.out.m4)) HC0.out (spec_ReadEdit.It.brd (by with_reducible repeat (first | exact I.out | apply spec_ReadEdit.It.drewN | apply spec_ReadEdit.It.drew))) V5.out).mono ?_); rintro e w9 ⟨rfl, h9⟩; refine ⟨_, rfl, ?_⟩; have I9 := Aside0.mk (spec_ReadEdit.It.read (by with_reducible repeat (first | exact I.out | apply spec_ReadEdit.It.drewN | apply spec_ReadEdit.It.drew)) GS.out G8.out h9); clear I h9; have I := I9; clear I9; have hz5 := c5 I.out.bz; have hf5 := f5 I.out.bz) | ((with_reducible refine gate_store (t := 9) (p := 82) rfl ?_); refine store_event (t := 9) (p := 82) (v := ?vo_9006) (w1 := w9.setCell ⟨g8, 3, none⟩ (.string y5)) ?hg ?ho ?hn ?hr ?_; (case ho => rfl); (case hg => rfl); (case hn => rfl); (case hr => first | (go_simp; done) | (go_simp; rfl)); intro w14 hw; have I9 := Aside0.mk ((by rw [hw]; exact spec_ReadEdit.It.put (y := ⟨y1, ⟨y2, y4, y5, y3⟩⟩) I.out G8.out ((On.refl g8 _).set 3 _) (blk_put I.out.bz 3 _ rfl)) : spec_ReadEdit.It w w14 g2 g4 g5 g8 A0 l0.length c0 _ _ x1 x2 x3 vd D (.slice Ad acc.length cd) acc ⟨y1, ⟨y2, y4, y5, y3⟩⟩); clear hw I hz5 hf5; have I := I9; clear I9; have hg5 := c5 I.out.be; have hz5 := c5 I.out.bz) | ((with_reducible refine gate_builtin (b := .append) (xs := #[.tmp 84, .tmp 86]) rfl ?_); at_builtin; refine Kd.R_append k75 (w0 := w) w.heap.size rfl (.tmp 84) (.tmp 86) 24 75 (.agg #[.int .i64 0, .int .i64 0, .string ⟨#[]⟩, .string ⟨#[]⟩, .int .i64 0]) 56 rfl Try.underlying24 info75 rfl (by decide) (by omega) (.slice Ad acc.length cd) acc ⟨y1, ⟨y2, y4, y5, y3⟩⟩ [.int .i64 y1, .int .i64 y2, .string y4, .string y5, .int .i64 y3] (fun _ => True) (fun _ => False) rfl rfl ?aP (fun _ hk => hk.elim) ?aF ?aO ?aB ?aS ?aL ?_; (case aP => exact k75_mkM _ _ _ ⟨y1, ⟨y2, y4, y5, y3⟩⟩); (case aB => exact spec_ReadEdit.It.bel (by with_reducible repeat (first | exact I.out | apply spec_ReadEdit.It.drewN | apply spec_ReadEdit.It.drew))); (case aF => exact (fun _ _ => trivial)); (case aO => exact Kd.R_mono (spec_ReadEdit.It.ra (by with_reducible repeat (first | exact I.out | apply spec_ReadEdit.It.drewN | apply spec_ReadEdit.It.drew))) (fun _ _ => trivial)); (case aS => exact below_size (spec_ReadEdit.It.bel (by with_reducible repeat (first | exact I.out | apply spec_ReadEdit.It.drewN | apply spec_ReadEdit.It.drew)))); (case aL => have := hl30; omega); intro v15 w15 ho hb hg_ hat; rw [← NY.out] at ho; obtain ⟨z1, z2, z3, z4⟩ := spec_ReadEdit.It.grownA (by with_reducible repeat (first | exact I.out | apply spec_ReadEdit.It.drewN | apply spec_ReadEdit.It.drew)) hg_; obtain ⟨A15, c15, e15⟩ := Kd.R_slice ho; subst e15; have on15 := (On.refl g5 w15).set 4 (.slice A15 Y.length c15); have S9 := Aside0.mk (⟨on15.blk z1 GS.out.n25, on15.blk z2 GS.out.n45, blk_put z3 4 _ rfl, on15.Rt z4 z3 (by decide), on15.Rt ho z3 (by decide), on15.below hb GS.out.m5⟩ : spec_ReadEdit.St w (w15.setCell ⟨g5, 4, none⟩ (.slice A15 Y.length c15)) g2 g4 g5 A0 l0.length c0 u5 v5 x1 x2 x3 vd D (.slice A15 Y.length c15) Y); have hc15 : w15.cell? ⟨g5, 4, none⟩ = some (.slice Ad acc.length cd) := (blk_cell z3 4).trans rfl; have hf15 : w15.frozen? ⟨g5, 4, none⟩ = false := blk_frozen z3 4; clear ho hb hg_ hat z1 z2 z3 z4 on15 I hz5 hg5))
          go_roundg m
          case measure => omega
          case rel => exact ⟨m, _, _, Y, u5, v5, by omega, by omega, rfl, ⟨by rw [NY.out, List.length_append, LA.out]; simp; omega⟩, HN2, ⟨by with_reducible repeat (first | exact S9.out | apply spec_ReadEdit.St.drewN | apply spec_ReadEdit.St.drew)⟩⟩
        · have hx : some (acc, a, b) = some B := by
            have h := HD.out
            cases m with
            | zero => exact h
            | succ m =>
              simp only [spec_ReadEdit.adds] at h
              rw [if_neg (by
                intro h2
                simp only [Bool.and_eq_true, decide_eq_true_eq, Bool.not_eq_true'] at h2
                exact hgo ⟨by omega, h2.1, h2.2⟩)] at h
              exact h
          obtain rfl := Option.some.inj hx
          clear hx HD
          cases hqp : decide (q > 0) with
          | false =>
            clear hgo
            go_wp2
            go_meet
            exact ⟨_, ⟨by with_reducible repeat (first | exact S.out | apply spec_ReadEdit.St.drewN | apply spec_ReadEdit.St.drew)⟩⟩
          | true =>
            cases b with
            | true =>
              clear hgo
              go_wp2
              go_meet
              exact ⟨_, ⟨by with_reducible repeat (first | exact S.out | apply spec_ReadEdit.St.drewN | apply spec_ReadEdit.St.drew)⟩⟩
            | false =>
              have hm0 : m = 0 := by
                apply Classical.byContradiction
                intro h
                exact hgo ⟨h, of_decide_eq_true hqp, rfl⟩
              have hl30 : ¬ ((acc.length : Nat) : Int) < 30 := by have := LA.out; omega
              clear hgo
              go_wp2
              go_meet
              exact ⟨_, ⟨by with_reducible repeat (first | exact S.out | apply spec_ReadEdit.St.drewN | apply spec_ReadEdit.St.drew)⟩⟩
    case rest =>
      obtain ⟨va, SC⟩ := hcut
      clear S A6 A7
      have S := SC
      clear SC
      obtain ⟨Ad, cd, ed⟩ := Kd.R_slice S.out.rd
      subst ed
      obtain ⟨Ae, ce, ee⟩ := Kd.R_slice S.out.ra
      subst ee
      obtain ⟨B1, a7, b7⟩ := B
      have h := H.out
      unfold spec_ReadEdit.g at h
      dsimp only at h S
      have hr5 := c5 S.out.br
      have hf5 := f5 S.out.br
      have hq3 := c3 S.out.brd
      have hq5 := c5 S.out.be
      clear H
      cases b7 with
      | true =>
        simp only [if_true, Option.some.injEq, Prod.mk.injEq] at h
        obtain ⟨rfl, rfl, rfl, rfl, rfl, rfl⟩ := h
        go_wp2
        refine bodyPost_ret (results_ct rfl _ _ g2 26 #[.int .i64 0, .int .i64 0, .int .i64 0, .slice none 0 0, .slice none 0 0] (0, 0) _ rfl (by (with_reducible repeat (first | refine blk_drewN ?_ _ | refine blk_drew ?_)); exact p5 (show _ = some (Obj.cells #[.int .i64 0, .int .i64 0, .int .i64 0, .slice none 0 0, .slice none 0 0] 26 (0, 0)) from by (with_reducible repeat (first | refine blk_drewN ?_ _ | refine blk_drew ?_)); exact S.out.br)) Try.underlying26 rfl (by kernel_rfl)) rfl ?_
        exact ⟨_, _, rfl, Kd.R_nil _ _ _ _ _, Kd.R_nil _ _ _ _ _, by with_reducible repeat (first | exact S.out.bel | apply below_alloc | apply pw_below_drewN | apply below_drew1 | refine below_set ?_ GS.out.m2)⟩
      | false =>
        simp only [Bool.false_eq_true, if_false] at h
        cases hend : decide (a7 < (l0.length : Int)) with
        | true =>
          rw [hend, if_pos rfl] at h
          simp only [Option.some.injEq, Prod.mk.injEq] at h
          obtain ⟨rfl, rfl, rfl, rfl, rfl, rfl⟩ := h
          go_wp2
          refine bodyPost_ret (results_ct rfl _ _ g2 26 #[.int .i64 0, .int .i64 0, .int .i64 0, .slice none 0 0, .slice none 0 0] (0, 0) _ rfl (by (with_reducible repeat (first | refine blk_drewN ?_ _ | refine blk_drew ?_)); exact p5 (show _ = some (Obj.cells #[.int .i64 0, .int .i64 0, .int .i64 0, .slice none 0 0, .slice none 0 0] 26 (0, 0)) from by (with_reducible repeat (first | refine blk_drewN ?_ _ | refine blk_drew ?_)); exact S.out.br)) Try.underlying26 rfl (by kernel_rfl)) rfl ?_
          exact ⟨_, _, rfl, Kd.R_nil _ _ _ _ _, Kd.R_nil _ _ _ _ _, by with_reducible repeat (first | exact S.out.bel | apply below_alloc | apply pw_below_drewN | apply below_drew1 | refine below_set ?_ GS.out.m2)⟩
        | false =>
          rw [hend, if_neg (by decide)] at h
          replace h := Option.bind_eq_some_iff.mp h
          obtain ⟨gd, hg1, h⟩ := h
          have A1 := Aside0.mk hg1
          clear hg1
          cases gd with
          | false =>
            simp only [Bool.false_eq_true, if_false, Option.some.injEq, Prod.mk.injEq] at h
            obtain ⟨rfl, rfl, rfl, rfl, rfl, rfl⟩ := h
            go_wp2_with (first | (go_at_call 38; (with_reducible refine (spec_l9Edit.calls k x1 x2 x3 _ _ D _ _ B1 false _ ?side1 ?side2 ?side3 ?side4 A1.out).mono ?_); (case side1 => exact (Kd.R_reads' (spec_ReadEdit.St.rd (by with_reducible repeat (first | exact S.out | apply spec_ReadEdit.St.drewN | apply spec_ReadEdit.St.drew)))).2.2); (case side2 => exact (Kd.R_reads' S.out.rd).2.1); (case side3 => exact (Kd.R_reads' (spec_ReadEdit.St.ra (by with_reducible repeat (first | exact S.out | apply spec_ReadEdit.St.drewN | apply spec_ReadEdit.St.drew)))).2.2); (case side4 => exact (Kd.R_reads' S.out.ra).2.1); rintro e w10 ⟨rfl, hb⟩; have S10 := Aside0.mk (spec_ReadEdit.St.below (by with_reducible repeat (first | exact S.out | apply spec_ReadEdit.St.drewN | apply spec_ReadEdit.St.drew)) hb); clear S hr5 hf5 hq3 hq5 hb; have S := S10; clear S10; have hq5 := c5 S.out.be; have hr5 := c5 S.out.br; have hf5 := f5 S.out.br))
            refine bodyPost_ret (results_ct rfl _ _ g2 26 #[.int .i64 0, .int .i64 0, .int .i64 0, .slice none 0 0, .slice none 0 0] (0, 0) _ rfl (by (with_reducible repeat (first | refine blk_drewN ?_ _ | refine blk_drew ?_)); exact p5 (show _ = some (Obj.cells #[.int .i64 0, .int .i64 0, .int .i64 0, .slice none 0 0, .slice none 0 0] 26 (0, 0)) from by (with_reducible repeat (first | refine blk_drewN ?_ _ | refine blk_drew ?_)); exact S.out.br)) Try.underlying26 rfl (by kernel_rfl)) rfl ?_
            exact ⟨_, _, rfl, Kd.R_nil _ _ _ _ _, Kd.R_nil _ _ _ _ _, by with_reducible repeat (first | exact S.out.bel | apply below_alloc | apply pw_below_drewN | apply below_drew1 | refine below_set ?_ GS.out.m2)⟩
          | true =>
            simp only [if_true, Option.some.injEq, Prod.mk.injEq] at h
            obtain ⟨rfl, rfl, rfl, rfl, rfl, rfl⟩ := h
            go_wp2_with (first | (go_at_call 38; (with_reducible refine (spec_l9Edit.calls k x1 x2 x3 _ _ D _ _ B1 true _ ?side1 ?side2 ?side3 ?side4 A1.out).mono ?_); (case side1 => exact (Kd.R_reads' (spec_ReadEdit.St.rd (by with_reducible repeat (first | exact S.out | apply spec_ReadEdit.St.drewN | apply spec_ReadEdit.St.drew)))).2.2); (case side2 => exact (Kd.R_reads' S.out.rd).2.1); (case side3 => exact (Kd.R_reads' (spec_ReadEdit.St.ra (by with_reducible repeat (first | exact S.out | apply spec_ReadEdit.St.drewN | apply spec_ReadEdit.St.drew)))).2.2); (case side4 => exact (Kd.R_reads' S.out.ra).2.1); rintro e w10 ⟨rfl, hb⟩; have S10 := Aside0.mk (spec_ReadEdit.St.below (by with_reducible repeat (first | exact S.out | apply spec_ReadEdit.St.drewN | apply spec_ReadEdit.St.drew)) hb); clear S hr5 hf5 hq3 hq5 hb; have S := S10; clear S10; have hq5 := c5 S.out.be; have hr5 := c5 S.out.br; have hf5 := f5 S.out.br))
            refine bodyPost_ret (results_ct rfl _ _ g2 26 #[.int .i64 x1, .int .i64 x2, .int .i64 x3, .slice Ad D.length cd, .slice Ae B1.length ce] (0, 0) _ rfl (by (with_reducible repeat (first | refine blk_drewN ?_ _ | refine blk_drew ?_)); exact p5 (show _ = some (Obj.cells #[.int .i64 0, .int .i64 0, .int .i64 0, .slice none 0 0, .slice none 0 0] 26 (0, 0)) from by (with_reducible repeat (first | refine blk_drewN ?_ _ | refine blk_drew ?_)); exact S.out.br)) Try.underlying26 rfl (by kernel_rfl)) rfl ?_
            have on8 := fun (W : World) => (((((On.refl g2 W).set 0 (.int .i64 x1)).set 1 (.int .i64 x2)).set 2 (.int .i64 x3)).set 3 (.slice Ad D.length cd)).set 4 (.slice Ae B1.length ce)
            exact ⟨_, _, rfl, by (with_reducible repeat (first | apply Kd.R_drewN | apply Kd.R_drew)); exact (on8 _).Rt (spec_ReadEdit.St.rd (by with_reducible repeat (first | exact S.out | apply spec_ReadEdit.St.drewN | apply spec_ReadEdit.St.drew))) (spec_ReadEdit.St.br (by with_reducible repeat (first | exact S.out | apply spec_ReadEdit.St.drewN | apply spec_ReadEdit.St.drew))) (by decide), by (with_reducible repeat (first | apply Kd.R_drewN | apply Kd.R_drew)); exact (on8 _).Rt (spec_ReadEdit.St.ra (by with_reducible repeat (first | exact S.out | apply spec_ReadEdit.St.drewN | apply spec_ReadEdit.St.drew))) (spec_ReadEdit.St.br (by with_reducible repeat (first | exact S.out | apply spec_ReadEdit.St.drewN | apply spec_ReadEdit.St.drew))) (by decide), by with_reducible repeat (first | exact S.out.bel | apply below_alloc | apply pw_below_drewN | apply below_drew1 | refine below_set ?_ GS.out.m2)⟩

end Go.Proofs.Ytadkabbeghpgcaa.PFnExactReadEdit
