-- Written by a program of this session.
import Derived.Test.YtllmlnagihlokaaPFnExactBoundsOfx0
import Derived.Test.YtllmlnagihlokaaPFnExactBoundsOfx9
import Derived.Test.YtllmlnagihlokaaPFnExactBoundsOfx10
import Derived.Test.YtllmlnagihlokaaPFnExactBoundsOfx13
import Derived.Test.YtllmlnagihlokaaPFnExactBoundsOfx16
import Derived.Test.YtllmlnagihlokaaPFnExactBoundsOfx17
import Derived.Test.YtllmlnagihlokaaPFnExactBoundsOfx18
import Derived.Test.YtllmlnagihlokaaPFnExactBoundsOfx19
namespace Go.Proofs.Ytllmlnagihlokaa.PFnExactBoundsOf
open Go.RowKit Go.Proofs.YtllmlnagihlokaaW.PrintWords Go.Proofs.YtllmlnagihlokaaW.PrintLast Go.Proofs.YtllmlnagihlokaaW.PrintMore
attribute [local go_sem] max2_int min2_int max_two min_two max_three min_three max_four min_four hw_string_geq hw_string_gtr hw_string_leq
set_option linter.unusedVariables false
set_option linter.unusedSimpArgs false
abbrev bq20_0 : Array Bool := #[false, false, false, false, false, false, false, false, false, false, false, false, false, false, false, false]
abbrev bq20_1 : Array Bool := #[true, false, false, false, false, false, false, false, false, false, false, false, false, false, false, false]
abbrev bq20_2 : Array Bool := #[true, true, false, false, false, false, false, false, false, false, false, false, false, false, false, false]
abbrev bq20_3 : Array Bool := #[true, true, true, false, false, false, false, false, false, false, false, false, false, false, false, false]
abbrev bq20_4 : Array Bool := #[true, true, true, true, false, false, false, false, false, false, false, false, false, false, false, false]
abbrev bq20_5 : Array Bool := #[true, true, true, true, true, false, false, false, false, false, false, false, false, false, false, false]
abbrev bq20_6 : Array Bool := #[true, true, true, true, true, true, false, false, false, false, false, false, false, false, false, false]
abbrev bq20_7 : Array Bool := #[true, true, true, true, true, true, true, false, false, false, false, false, false, false, false, false]
abbrev bq20_8 : Array Bool := #[true, true, true, true, true, true, true, true, false, false, false, false, false, false, false, false]
abbrev bq20_10 : Array Bool := #[true, true, true, true, true, true, true, true, true, true, false, false, false, false, false, false]
abbrev bq20_11 : Array Bool := #[true, true, true, true, true, true, true, true, true, true, true, false, false, false, false, false]
abbrev bq20_12 : Array Bool := #[true, true, true, true, true, true, true, true, true, true, true, true, false, false, false, false]
abbrev bq20_13 : Array Bool := #[true, true, true, true, true, true, true, true, true, true, true, true, true, false, false, false]
abbrev bq20_14 : Array Bool := #[true, true, true, true, true, true, true, true, true, true, true, true, true, true, false, false]
abbrev bq20_15 : Array Bool := #[true, true, true, true, true, true, true, true, true, true, true, true, true, true, true, false]
abbrev bq20_16 : Array Bool := #[true, true, true, true, true, true, true, true, true, true, true, true, true, true, true, true]
abbrev bq20_17 : Array Bool := #[false, false, false, false, false, false, false, false, false, false, false, false, false, false, false, false, false, false, false]
/-! ### impl_readTable: function 32, by hand -/
def impl_readTable.num (k : Nat) (l : List Int) (at_ : Int) (bad : Bool) : Option (Int × Int × Bool) := (impl_ReadVar.f k l at_).bind fun p => some (if bad = true then (0, at_, true) else if p.2.2 = false then (0, at_, true) else if (decide (p.1 > 1000000000)) = true then (0, at_, true) else (wrap64 p.1, p.2.1, false))
/-- V is behind W: new blocks, and the reader's block, which reads so -/
structure impl_readTable.Rs (gr : Nat) (W : World) (A : Option Addr) (n c : Nat) (at_ : Int) (bad : Bool) (V : World) : Prop where
 step : Gr gr W V
 blk : V.heap[gr]? = some (.cells #[.slice A n c, .int .i64 at_, .bool bad] 92 (0, 0))
section
variable {gr : Nat} {W V U : World} {A : Option Addr} {n c : Nat} {at_ : Int} {bad : Bool}
theorem impl_readTable.Rs.drew (h : impl_readTable.Rs gr W A n c at_ bad V) : impl_readTable.Rs gr W A n c at_ bad V.drew := ⟨h.step.drew, h.blk⟩
theorem impl_readTable.Rs.drewN (h : impl_readTable.Rs gr W A n c at_ bad V) (q : Nat) : impl_readTable.Rs gr W A n c at_ bad (V.drewN q) := ⟨h.step.drewN q, h.blk⟩
theorem impl_readTable.Rs.below (h : impl_readTable.Rs gr W A n c at_ bad V) (hb : Below V.heap.size V U) : impl_readTable.Rs gr W A n c at_ bad U := ⟨h.step.step hb, blk_below h.blk hb⟩
theorem impl_readTable.Rs.set1 (h : impl_readTable.Rs gr W A n c at_ bad V) (x : Int) : impl_readTable.Rs gr W A n c x bad (V.setCell ⟨gr, 1, none⟩ (.int .i64 x)) := ⟨h.step.set 1 _, blk_put h.blk 1 _ rfl⟩
theorem impl_readTable.Rs.set2 (h : impl_readTable.Rs gr W A n c at_ bad V) (x : Bool) : impl_readTable.Rs gr W A n c at_ x (V.setCell ⟨gr, 2, none⟩ (.bool x)) := ⟨h.step.set 2 _, blk_put h.blk 2 _ rfl⟩
end
set_option maxHeartbeats 8000000 in
set_option maxRecDepth 100000 in
/-- a number is read -/
theorem impl_readTable.num_calls (k : Nat) (l : List Int) (at_ : Int) (bad : Bool) (n at2 : Int) (bad2 : Bool) (A : Option Addr) (c gr : Nat) (w : World) (hr : Kd.C (Kd.int .u8) w A l.length l) (hc : l.length ≤ c) (hb : w.heap[gr]? = some (.cells #[.slice A l.length c, .int .i64 at_, .bool bad] 92 (0, 0))) (h : impl_readTable.num k l at_ bad = some (n, at2, bad2)) :
  Calls Try.prog 89 #[.pointer (some ⟨gr, 0, none⟩)] w fun e w' => e = .returned (.int .i64 n) ∧ impl_readTable.Rs gr w A l.length c at2 bad2 w' := by
 have hu := Try.underlying92
 unfold impl_readTable.num at h
 obtain ⟨⟨x, nx, ok⟩, h1, h⟩ := Option.bind_eq_some_iff.mp h
 dsimp only at h
 have HV := Aside0.mk h1
 have HR := Aside0.mk hr
 have HC := Aside0.mk hc
 have R0 := mK (⟨Gr.refl gr w, hb⟩ : impl_readTable.Rs gr w A l.length c at_ bad w)
 have H := mK (Option.some.inj h)
 clear h1 hr hc hb h
 go_enter Try.func89, Try.ntmps89
 go_wp2
 have R1 := mK (R0.out.drew)
 have HR1 := mK (Kd.C_drew HR.out)
 refine start_ (n := 16) (S := fun w' => w'.cell? ⟨gr, 0, none⟩ = some (.slice A l.length c) ∧ w'.cell? ⟨gr, 1, none⟩ = some (.int .i64 at_)) (ds := []) bq20_0 (by kernel_rfl) rfl rfl ⟨(blk_cell R1.out.blk 0).trans rfl, (blk_cell R1.out.blk 1).trans rfl⟩ (fun hHeld => ?_)
 clear R0 HR
 generalize hw1 : w.drew = w1 at R1 HR1 hHeld ⊢
 clear hw1
 refine pure_ (i := 0) (N := some 7) (v := ?_) (a' := ?_) bq20_1 rfl rfl (by kernel_rfl) (fun _ _ _ h => h) (Or.inl ⟨by rfl, ?_⟩) ?_ ?_
 rotate_left
 ·intro w'; go_simp; with_reducible rfl
 rotate_left
 ·simp only [Act.put, sq_a, sq_b, sq_c, i64_w, i32_w]; rfl
 refine pure_ (i := 1) (N := some 8) (v := ?_) (a' := ?_) bq20_2 rfl rfl (by kernel_rfl) (fun _ _ _ h => h) (Or.inl ⟨by rfl, ?_⟩) ?_ ?_
 rotate_left
 ·intro w'; go_simp; with_reducible rfl
 rotate_left
 ·simp only [Act.put, sq_a, sq_b, sq_c, i64_w, i32_w]; rfl
 refine pure_ (i := 2) (N := some 9) (v := ?_) (a' := ?_) bq20_3 rfl rfl (by kernel_rfl) (fun _ _ _ h => h) (Or.inl ⟨by rfl, ?_⟩) ?_ ?_
 rotate_left
 ·intro w'; go_simp; with_reducible rfl
 rotate_left
 ·simp only [Act.put, sq_a, sq_b, sq_c, i64_w, i32_w]; rfl
 refine take_ (i := 3) (N := some 10) (v := ?_) (a' := ?_) bq20_4 rfl rfl (by kernel_rfl) (fun _ _ _ h => h) (Or.inl ⟨by rfl, ?_⟩) hHeld ?_ ?_
 rotate_left
 ·rintro w' ⟨s0, s1⟩; go_simp; with_reducible rfl
 rotate_left
 ·simp only [Act.put, sq_a, sq_b, sq_c, i64_w, i32_w]; rfl
 refine pure_ (i := 4) (N := some 11) (v := ?_) (a' := ?_) bq20_5 rfl rfl (by kernel_rfl) (fun _ _ _ h => h) (Or.inl ⟨by rfl, ?_⟩) ?_ ?_
 rotate_left
 ·intro w'; go_simp; with_reducible rfl
 rotate_left
 ·simp only [Act.put, sq_a, sq_b, sq_c, i64_w, i32_w]; rfl
 refine pure_ (i := 5) (N := some 12) (v := ?_) (a' := ?_) bq20_6 rfl rfl (by kernel_rfl) (fun _ _ _ h => h) (Or.inl ⟨by rfl, ?_⟩) ?_ ?_
 rotate_left
 ·intro w'; go_simp; with_reducible rfl
 rotate_left
 ·simp only [Act.put, sq_a, sq_b, sq_c, i64_w, i32_w]; rfl
 refine pure_ (i := 6) (N := some 13) (v := ?_) (a' := ?_) bq20_7 rfl rfl (by kernel_rfl) (fun _ _ _ h => h) (Or.inl ⟨by rfl, ?_⟩) ?_ ?_
 rotate_left
 ·intro w'; go_simp; with_reducible rfl
 rotate_left
 ·simp only [Act.put, sq_a, sq_b, sq_c, i64_w, i32_w]; rfl
 refine take_ (i := 7) (N := some 14) (v := ?_) (a' := ?_) bq20_8 rfl rfl (by kernel_rfl) (fun _ _ _ h => h) (Or.inl ⟨by rfl, ?_⟩) hHeld ?_ ?_
 rotate_left
 ·rintro w' ⟨s0, s1⟩; go_simp; with_reducible rfl
 rotate_left
 ·simp only [Act.put, sq_a, sq_b, sq_c, i64_w, i32_w]; rfl
 refine on_ 8 15 (fun K hK => ?_)
 refine goes_ Try.func112 (by kernel_rfl) rfl #[.slice A l.length c, .int .i64 at_] (by rfl) rfl rfl (by (try simp only [List.map_toArray, List.map_cons, List.map_nil]); first | done | rfl) ?_
 with_reducible refine (impl_ReadVar.calls k A c l at_ x nx ok _ HR1.out HC.out HV.out).mono ?_
 rintro e w2 ⟨rfl, hd⟩
 refine ⟨_, rfl, ?_⟩
 have R2 := mK (impl_readTable.Rs.below R1.out hd)
 clear hd R1 HR1
 refine hK.out _ _ ⟨(blk_cell R2.out.blk 0).trans rfl, (blk_cell R2.out.blk 1).trans rfl⟩ (fun hHeld => ?_)
 clear hK K
 refine norm_ (a' := ?_) ?_ ?_
 rotate_left
 ·show Act.put _ (some 15) _ = _
  simp only [Act.put, sq_a, sq_b, sq_c, i64_w, i32_w]; rfl
 refine pure_ (i := 9) (N := some 6) (v := ?_) (a' := ?_) bq20_10 rfl rfl (by kernel_rfl) (fun _ _ _ h => h) (Or.inl ⟨by rfl, ?_⟩) ?_ ?_
 rotate_left
 ·intro w'; go_simp; with_reducible rfl
 rotate_left
 ·simp only [Act.put, sq_a, sq_b, sq_c, i64_w, i32_w]; rfl
 refine pure_ (i := 10) (N := some 16) (v := ?_) (a' := ?_) bq20_11 rfl rfl (by kernel_rfl) (fun _ _ _ h => h) (Or.inl ⟨by rfl, ?_⟩) ?_ ?_
 rotate_left
 ·intro w'; go_simp; with_reducible rfl
 rotate_left
 ·simp only [Act.put, sq_a, sq_b, sq_c, i64_w, i32_w]; rfl
 refine pure_ (i := 11) (N := some 17) (v := ?_) (a' := ?_) bq20_12 rfl rfl (by kernel_rfl) (fun _ _ _ h => h) (Or.inl ⟨by rfl, ?_⟩) ?_ ?_
 rotate_left
 ·intro w'; go_simp; with_reducible rfl
 rotate_left
 ·simp only [Act.put, sq_a, sq_b, sq_c, i64_w, i32_w]; rfl
 refine pure_ (i := 12) (N := some 18) (v := ?_) (a' := ?_) bq20_13 rfl rfl (by kernel_rfl) (fun _ _ _ h => h) (Or.inl ⟨by rfl, ?_⟩) ?_ ?_
 rotate_left
 ·intro w'; go_simp; with_reducible rfl
 rotate_left
 ·simp only [Act.put, sq_a, sq_b, sq_c, i64_w, i32_w]; rfl
 refine pure_ (i := 13) (N := some 3) (v := ?_) (a' := ?_) bq20_14 rfl rfl (by kernel_rfl) (fun _ _ _ h => h) (Or.inl ⟨by rfl, ?_⟩) ?_ ?_
 rotate_left
 ·intro w'; go_simp; with_reducible rfl
 rotate_left
 ·simp only [Act.put, sq_a, sq_b, sq_c, i64_w, i32_w]; rfl
 refine pure_ (i := 14) (N := some 4) (v := ?_) (a' := ?_) bq20_15 rfl rfl (by kernel_rfl) (fun _ _ _ h => h) (Or.inl ⟨by rfl, ?_⟩) ?_ ?_
 rotate_left
 ·intro w'; go_simp; with_reducible rfl
 rotate_left
 ·simp only [Act.put, sq_a, sq_b, sq_c, i64_w, i32_w]; rfl
 refine pure_ (i := 15) (N := some 5) (v := ?_) (a' := ?_) bq20_16 rfl rfl (by kernel_rfl) (fun _ _ _ h => h) (Or.inl ⟨by rfl, ?_⟩) ?_ ?_
 rotate_left
 ·intro w'; go_simp; with_reducible rfl
 rotate_left
 ·simp only [Act.put, sq_a, sq_b, sq_c, i64_w, i32_w]; rfl
 refine done_ (by kernel_rfl) ?_
 clear hHeld
 have hx := c3 R2.out.blk
 have hf := f3 R2.out.blk
 cases bad with
 | true =>
  have H2 := H.out; simp only [if_true, Prod.mk.injEq] at H2; obtain ⟨rfl, rfl, rfl⟩ := H2; clear H
  go_wp2
  go_ret
  exact ⟨rfl, by with_reducible repeat (first | exact R2.out | apply impl_readTable.Rs.drewN | apply impl_readTable.Rs.drew | apply impl_readTable.Rs.set2)⟩
 | false =>
  cases ok with
  | false =>
   have H2 := H.out; simp only [Bool.false_eq_true, if_true, if_false, Prod.mk.injEq] at H2; obtain ⟨rfl, rfl, rfl⟩ := H2; clear H
   go_wp2
   go_ret
   exact ⟨rfl, by with_reducible repeat (first | exact R2.out | apply impl_readTable.Rs.drewN | apply impl_readTable.Rs.drew | apply impl_readTable.Rs.set2)⟩
  | true =>
   cases h1 : decide (x > 1000000000) with
   | true =>
    have H2 := H.out; simp only [h1, Bool.false_eq_true, Bool.true_eq_false, if_true, if_false, Prod.mk.injEq] at H2; obtain ⟨rfl, rfl, rfl⟩ := H2; clear H
    go_wp2
    go_ret
    exact ⟨rfl, by with_reducible repeat (first | exact R2.out | apply impl_readTable.Rs.drewN | apply impl_readTable.Rs.drew | apply impl_readTable.Rs.set2)⟩
   | false =>
    have H2 := H.out; simp only [h1, Bool.false_eq_true, Bool.true_eq_false, if_false, Prod.mk.injEq] at H2; obtain ⟨rfl, rfl, rfl⟩ := H2; clear H
    go_wp2
    go_ret
    exact ⟨by first | rfl | (rw [i64_w]; done) | (simp only [i64_w]; done), by with_reducible repeat (first | exact R2.out | apply impl_readTable.Rs.drewN | apply impl_readTable.Rs.drew | apply impl_readTable.Rs.set1)⟩
def impl_readTable.tk (l : List Int) (at_ : Int) (bad : Bool) (n : Int) : Option (List Int × Int × Bool) := if bad = true then some ([], at_, true) else (impl_within.f n 0 (wrap64 ((l.length : Int) - at_))).bind fun b => if b = true then (if 0 ≤ n ∧ 0 ≤ at_ ∧ at_ + n ≤ l.length ∧ (l.length : Int) ≤ 4611686018427387904 then some ((l.take (at_ + n).toNat).drop at_.toNat, at_ + n, false) else none) else some ([], at_, true)
set_option maxHeartbeats 8000000 in
set_option maxRecDepth 100000 in
/-- some bytes are taken: a cut of what came in is handed back -/
theorem impl_readTable.take_calls (k : Nat) (l : List Int) (at_ : Int) (bad : Bool) (n : Int) (M : List Int) (at2 : Int) (bad2 : Bool) (A : Option Addr) (c gr : Nat) (w : World) (hr : ∀ V, Gr gr w V → Kd.C (Kd.int .u8) V A l.length l) (hc : l.length ≤ c) (hb : w.heap[gr]? = some (.cells #[.slice A l.length c, .int .i64 at_, .bool bad] 92 (0, 0))) (h : impl_readTable.tk l at_ bad n = some (M, at2, bad2)) :
  Calls Try.prog 91 #[.pointer (some ⟨gr, 0, none⟩), .int .i64 n] w fun e w' => ∃ A2 c2, e = .returned (.slice A2 M.length c2) ∧ M.length ≤ c2 ∧ (∀ V, Gr gr w V → Kd.C (Kd.int .u8) V A2 M.length M) ∧ impl_readTable.Rs gr w A l.length c at2 bad2 w' := by
 have hu := Try.underlying92
 unfold impl_readTable.tk at h
 have HR := Aside0.mk hr
 have HC := Aside0.mk hc
 have R0 := mK (⟨Gr.refl gr w, hb⟩ : impl_readTable.Rs gr w A l.length c at_ bad w)
 have H := Aside0.mk h
 clear hr hc hb h
 go_enter Try.func91, Try.ntmps91
 go_wp2
 have R3 := Aside0.mk R0.out.drew
 cases bad with
 | true =>
  refine start_ (n := 19) (S := fun w' => w'.cell? ⟨gr, 0, none⟩ = some (.slice A l.length c) ∧ w'.cell? ⟨gr, 1, none⟩ = some (.int .i64 at_) ∧ w'.cell? ⟨gr, 2, none⟩ = some (.bool true)) (ds := []) bq20_17 (by kernel_rfl) rfl rfl ⟨(blk_cell R3.out.blk 0).trans rfl, (blk_cell R3.out.blk 1).trans rfl, (blk_cell R3.out.blk 2).trans rfl⟩ (fun hHeld => ?_); generalize w.drew = w3 at R3 hHeld ⊢; refine pu_ 0 5 ?_
  refine pu_ 1 6 ?_
  refine pu_ 2 7 ?_
  refine tk_ 3 8 hHeld ?_
  refine pu_ 4 9 ?_
  refine pu_ 5 10 ?_
  refine pu_ 6 11 ?_
  refine pu_ 7 12 ?_
  refine pu_ 8 13 ?_
  refine pu_ 9 14 ?_
  refine pu_ 10 15 ?_
  refine pu_ 11 16 ?_
  refine pu_ 12 17 ?_
  refine pu_ 13 18 ?_
  refine pu_ 14 19 ?_
  refine pu_ 15 20 ?_
  refine pu_ 16 21 ?_
  refine pu_ 17 22 ?_
  refine pu_ 18 23 ?_
  refine done_ (by kernel_rfl) ?_; clear hHeld R0; have R2 := R3; clear R3; have hx := c3 R2.out.blk; have hf := f3 R2.out.blk; have H2 := H.out; simp only [if_true, Option.some.injEq, Prod.mk.injEq] at H2; obtain ⟨rfl, rfl, rfl⟩ := H2; clear H
  go_wp2
  go_ret
  exact ⟨none, 0, rfl, Nat.zero_le _, fun V _ => Kd.C_nil _ _, by with_reducible repeat (first | exact R2.out | apply impl_readTable.Rs.drewN | apply impl_readTable.Rs.drew | apply impl_readTable.Rs.set2)⟩
 | false =>
  have h := H.out; rw [if_neg (by decide)] at h; replace h := Option.bind_eq_some_iff.mp h; obtain ⟨b, hb1, h⟩ := h; have HW := Aside0.mk hb1; clear hb1 H; have H := Aside0.mk h; clear h; refine start_ (n := 19) (S := fun w' => w'.cell? ⟨gr, 0, none⟩ = some (.slice A l.length c) ∧ w'.cell? ⟨gr, 1, none⟩ = some (.int .i64 at_) ∧ w'.cell? ⟨gr, 2, none⟩ = some (.bool false)) (ds := []) bq20_17 (by kernel_rfl) rfl rfl ⟨(blk_cell R3.out.blk 0).trans rfl, (blk_cell R3.out.blk 1).trans rfl, (blk_cell R3.out.blk 2).trans rfl⟩ (fun hHeld => ?_); generalize w.drew = w3 at R3 hHeld ⊢; refine pu_ 0 5 ?_
  refine pu_ 1 6 ?_
  refine pu_ 2 7 ?_
  refine tk_ 3 8 hHeld ?_
  refine pu_ 4 9 ?_
  refine pu_ 5 10 ?_
  refine pu_ 6 11 ?_
  refine pu_ 7 12 ?_
  refine pu_ 8 13 ?_
  refine tk_ 9 14 hHeld ?_
  refine pu_ 10 15 ?_
  refine pu_ 11 16 ?_
  refine pu_ 12 17 ?_
  refine pu_ 13 18 ?_
  refine tk_ 14 19 hHeld ?_
  refine pu_ 15 20 ?_
  refine on_ 16 21 (fun K hK => ?_); refine goes_ Try.func25 (by kernel_rfl) rfl #[.int .i64 n, .int .i64 0, .int .i64 (wrap64 ((l.length : Int) - at_))] (by rfl) rfl rfl (by (try simp only [List.map_toArray, List.map_cons, List.map_nil]); first | done | rfl) ?_; (with_reducible refine (impl_within.calls n 0 (wrap64 ((l.length : Int) - at_)) b _ HW.out).mono ?_); rintro e w4 ⟨rfl, hd⟩; refine ⟨_, rfl, ?_⟩; have R2 := mK (impl_readTable.Rs.below R3.out hd.below); clear hd R3 R0; refine hK.out _ _ ⟨(blk_cell R2.out.blk 0).trans rfl, (blk_cell R2.out.blk 1).trans rfl, (blk_cell R2.out.blk 2).trans rfl⟩ (fun hHeld => ?_); clear hK K; refine norm_ (a' := ?_) ?_ ?_; rotate_left
  ·show Act.put _ (some 21) _ = _
   simp only [Act.put, sq_a, sq_b, sq_c, i64_w, i32_w]; rfl
  refine pu_ 17 22 ?_
  refine pu_ 18 23 ?_
  refine done_ (by kernel_rfl) ?_; clear hHeld; have hx := c3 R2.out.blk; have hf := f3 R2.out.blk
  cases b with
  | false =>
   have H2 := H.out; simp only [Bool.false_eq_true, if_false, Option.some.injEq, Prod.mk.injEq] at H2; obtain ⟨rfl, rfl, rfl⟩ := H2; clear H
   go_wp2
   go_ret
   exact ⟨none, 0, rfl, Nat.zero_le _, fun V _ => Kd.C_nil _ _, by with_reducible repeat (first | exact R2.out | apply impl_readTable.Rs.drewN | apply impl_readTable.Rs.drew | apply impl_readTable.Rs.set2)⟩
  | true =>
   have H2 := H.out; rw [if_pos rfl] at H2
   by_cases hin : 0 ≤ n ∧ 0 ≤ at_ ∧ at_ + n ≤ l.length ∧ (l.length : Int) ≤ 4611686018427387904
   ·rw [if_pos hin] at H2
    obtain ⟨hn0, ha0, hle, hll⟩ := hin; simp only [Option.some.injEq, Prod.mk.injEq] at H2; obtain ⟨hM, rfl, rfl⟩ := H2
    have ha : wrap64 (at_ + n) = at_ + n := by unfold wrap64; omega
    have hs : wrap64 (at_ + n - n) = at_ := by unfold wrap64; omega
    clear H
    have hs1 : wrap64 at_ = at_ := by unfold wrap64; omega
    have hcl := HC.out
    have hc1 : 0 ≤ at_ + n := by omega
    have hc2 : at_ + n ≤ (c : Int) := by omega
    have hc3 : at_ ≤ max (at_ + n) 0 := by omega
    have hML : M.length = (at_ + n).toNat - at_.toNat := by rw [← hM, List.length_drop, List.length_take]; omega
    have HCV := mK (show ∀ V, Gr gr w V → Kd.C (Kd.int .u8) V (if c = at_.toNat then A else Option.map (fun x => x.add at_.toNat) A) M.length M from fun V hV => by
     have h3 := Kd.C_mid (lo := at_.toNat) (hi := (at_ + n).toNat) (c := c) (HR.out V hV) (by omega) (by omega) hcl; simp only [show (Kd.int .u8).sz = 1 from rfl, Nat.mul_one] at h3; rw [hM] at h3
     exact h3)
    have HML := Aside0.mk hML; clear hM hML hcl
    go_wp2
    have R4 := mK (impl_readTable.Rs.set1 R2.out (at_ + n)).drew; refine start_ (n := 16) (S := fun w' => w'.cell? ⟨gr, 0, none⟩ = some (.slice A l.length c) ∧ w'.cell? ⟨gr, 1, none⟩ = some (.int .i64 (at_ + n))) (ds := []) bq20_0 (by kernel_rfl) rfl rfl ⟨(blk_cell R4.out.blk 0).trans rfl, (blk_cell R4.out.blk 1).trans rfl⟩ (fun hHeld => ?_); clear R2 hx hf; generalize World.drew _ = w4 at R4 hHeld ⊢; refine pu_ 0 35 ?_
    refine pu_ 1 36 ?_
    refine pu_ 2 37 ?_
    refine tk_ 3 38 hHeld ?_
    refine pu_ 4 39 ?_
    refine pu_ 5 40 ?_
    refine pu_ 6 41 ?_
    refine tk_ 7 42 hHeld ?_
    refine pu_ 8 43 ?_
    refine pu_ 9 44 ?_
    refine pu_ 10 45 ?_
    refine pu_ 11 46 ?_
    refine pu_ 12 47 ?_
    refine tk_ 13 48 hHeld ?_
    refine pu_ 14 49 ?_
    refine pu_ 15 4 ?_
    refine done_ (by kernel_rfl) ?_; clear hHeld; have R2 := R4; clear R4; generalize (if c = at_.toNat then A else Option.map (fun x => x.add at_.toNat) A) = A2 at HCV ⊢
    go_wp2
    go_ret
    rw [← HML.out]; exact ⟨A2, _, rfl, by have := HML.out; have := HC.out; omega, HCV.out, by with_reducible repeat (first | exact R2.out | apply impl_readTable.Rs.drewN | apply impl_readTable.Rs.drew)⟩
   ·rw [if_neg hin] at H2; cases H2
section
variable {gr : Nat} {W V U : World} {A : Option Addr} {n c : Nat} {at_ at2 : Int} {bad bad2 : Bool}
theorem impl_readTable.Rs.trans (h : impl_readTable.Rs gr W A n c at_ bad V) (h2 : impl_readTable.Rs gr V A n c at2 bad2 U) : impl_readTable.Rs gr W A n c at2 bad2 U := ⟨h.step.trans h2.step, h2.blk⟩
theorem impl_readTable.Rs.alloc (h : impl_readTable.Rs gr W A n c at_ bad V) (o : Obj) : impl_readTable.Rs gr W A n c at_ bad (V.alloc o) := ⟨h.step.alloc o, blk_alloc h.blk o⟩
theorem impl_readTable.Rs.far (h : impl_readTable.Rs gr W A n c at_ bad V) {g : Nat} (hg : W.heap.size ≤ g) (hn : g ≠ gr) (j : Nat) (u : Value) : impl_readTable.Rs gr W A n c at_ bad (V.setCell ⟨g, j, none⟩ u) := by
 have on := (On.refl g V).set j u
 refine ⟨⟨on.os.trans h.step.os, on.tape.trans h.step.tape, on.output.trans h.step.output, by rw [on.size]; exact h.step.size, fun i hi hne => (on.far i (by omega)).trans (h.step.far i hi hne)⟩, on.blk h.blk hn.symm⟩
end
theorem rsK {gr : Nat} {W V U : World} {A : Option Addr} {n c : Nat} {at_ : Int} {bad : Bool} (h : impl_readTable.Rs gr W A n c at_ bad V) (hm : MvA V U := by (with_reducible repeat (first | exact MvA.refl _ | apply MvA.drewN | apply MvA.drew | apply MvA.alloc))) : impl_readTable.Rs gr W A n c at_ bad U := h.below hm.below
structure MvF (gr : Nat) (W V U : World) : Prop where
 out : ∀ {A : Option Addr} {n c : Nat} {at_ : Int} {bad : Bool}, impl_readTable.Rs gr W A n c at_ bad V → impl_readTable.Rs gr W A n c at_ bad U
theorem MvF.refl (gr : Nat) (W V : World) : MvF gr W V V := ⟨id⟩
theorem MvF.drew {gr : Nat} {W V U : World} (h : MvF gr W V U) : MvF gr W V U.drew := ⟨fun k => (h.out k).drew⟩
theorem MvF.drewN {gr : Nat} {W V U : World} (h : MvF gr W V U) (m : Nat) : MvF gr W V (U.drewN m) := ⟨fun k => (h.out k).drewN m⟩
theorem MvF.alloc {gr : Nat} {W V U : World} (h : MvF gr W V U) (o : Obj) : MvF gr W V (U.alloc o) := ⟨fun k => (h.out k).alloc o⟩
theorem MvF.set {gr b : Nat} {W V U : World} (h : MvF gr W V U) (hb : Aside0 (W.heap.size ≤ b)) (hn : Aside0 (b ≠ gr)) (j : Nat) (u : Value) : MvF gr W V (U.setCell ⟨b, j, none⟩ u) := ⟨fun k => (h.out k).far hb.out hn.out j u⟩
theorem rsF {gr : Nat} {W V U : World} {A : Option Addr} {n c : Nat} {at_ : Int} {bad : Bool} (h : impl_readTable.Rs gr W A n c at_ bad V) (hm : MvF gr W V U := by (with_reducible repeat (first | exact MvF.refl _ _ _ | apply MvF.drewN | apply MvF.drew | apply MvF.alloc | refine MvF.set ?_ (by assumption) (by assumption) _ _))) : impl_readTable.Rs gr W A n c at_ bad U := hm.out h
theorem impl_readTable.num_at (k : Nat) (l : List Int) (at_ : Int) (bad : Bool) (n at2 : Int) (bad2 : Bool) (A : Option Addr) (c gr : Nat) (w W : World) (hr : ∀ V, Gr gr w V → Kd.C (Kd.int .u8) V A l.length l) (hc : l.length ≤ c) (R : impl_readTable.Rs gr w A l.length c at_ bad W) (h : impl_readTable.num k l at_ bad = some (n, at2, bad2)) :
  Calls Try.prog 89 #[.pointer (some ⟨gr, 0, none⟩)] W fun e w' => e = .returned (.int .i64 n) ∧ impl_readTable.Rs gr W A l.length c at2 bad2 w' := impl_readTable.num_calls k l at_ bad n at2 bad2 A c gr W (hr W R.step) hc R.blk h
theorem impl_readTable.take_at (k : Nat) (l : List Int) (at_ : Int) (bad : Bool) (n : Int) (M : List Int) (at2 : Int) (bad2 : Bool) (A : Option Addr) (c gr : Nat) (w W : World) (hr : ∀ V, Gr gr w V → Kd.C (Kd.int .u8) V A l.length l) (hc : l.length ≤ c) (R : impl_readTable.Rs gr w A l.length c at_ bad W) (h : impl_readTable.tk l at_ bad n = some (M, at2, bad2)) :
  Calls Try.prog 91 #[.pointer (some ⟨gr, 0, none⟩), .int .i64 n] W fun e w' => ∃ A2 c2, e = .returned (.slice A2 M.length c2) ∧ M.length ≤ c2 ∧ (∀ V, Gr gr W V → Kd.C (Kd.int .u8) V A2 M.length M) ∧ impl_readTable.Rs gr W A l.length c at2 bad2 w' := impl_readTable.take_calls k l at_ bad n M at2 bad2 A c gr W (fun V hV => hr V (R.step.trans hV)) hc R.blk h
def impl_readTable.kd (l : List Int) (at_ : Int) (bad : Bool) : Option (Int × Int × Bool) := (impl_readTable.tk l at_ bad 1).bind fun p => if p.2.2 = true then some (0, p.2.1, true) else if p.1.length = 1 then some (wrap64 (rd p.1 0), p.2.1, false) else none
set_option maxHeartbeats 8000000 in
set_option maxRecDepth 100000 in
/-- a byte is read -/
theorem impl_readTable.kind_at (k : Nat) (l : List Int) (at_ : Int) (bad : Bool) (n at2 : Int) (bad2 : Bool) (A : Option Addr) (c gr : Nat) (w W : World) (hr : ∀ V, Gr gr w V → Kd.C (Kd.int .u8) V A l.length l) (hc : l.length ≤ c) (R : impl_readTable.Rs gr w A l.length c at_ bad W) (h : impl_readTable.kd l at_ bad = some (n, at2, bad2)) :
  Calls Try.prog 90 #[.pointer (some ⟨gr, 0, none⟩)] W fun e w' => e = .returned (.int .i64 n) ∧ impl_readTable.Rs gr W A l.length c at2 bad2 w' := by
 have hu := Try.underlying92
 unfold impl_readTable.kd at h
 obtain ⟨⟨M, a2, b2⟩, h1, h⟩ := Option.bind_eq_some_iff.mp h
 dsimp only at h
 have HT := A0 h1
 have HR := A0 (fun V hV => hr V (R.step.trans hV))
 have HC := A0 hc
 have R1 := A0 (⟨Gr.refl gr W, R.blk⟩ : impl_readTable.Rs gr W A l.length c at_ bad W)
 clear h1 hr hc R
 have R := R1
 clear R1
 go_enter Try.func90, Try.ntmps90
 cases b2 with
 | true =>
  simp only [if_true, Option.some.injEq, Prod.mk.injEq] at h; obtain ⟨rfl, rfl, rfl⟩ := h
  go_wp2_with (go_at_call 91; (with_reducible refine (impl_readTable.take_at k l at_ bad 1 M a2 _ A c gr W _ HR.out HC.out (rsK R.out) HT.out).mono ?_); rintro e w5 ⟨A2, c2, rfl, h2, hC, hR⟩; have HM := A0 (hC w5 hR.step); have R2 := A0 (impl_readTable.Rs.trans (rsK R.out) hR); clear R hR hC; have R := R2; clear R2; obtain ⟨_, _, _⟩ := c3 R.out.blk; obtain ⟨_, _, _⟩ := f3 R.out.blk)
  go_ret
  exact ⟨rfl, (rsK R.out)⟩
 | false =>
  rw [if_neg (by decide)] at h
  by_cases hl : M.length = 1
  case neg => rw [if_neg hl] at h; cases h
  rw [if_pos hl] at h; simp only [Option.some.injEq, Prod.mk.injEq] at h; obtain ⟨rfl, rfl, rfl⟩ := h; have HL := A0 hl; clear hl
  go_wp2_with (first | (go_at_call 91; (with_reducible refine (impl_readTable.take_at k l at_ bad 1 M a2 _ A c gr W _ HR.out HC.out (rsK R.out) HT.out).mono ?_); rintro e w5 ⟨A2, c2, rfl, h2, hC, hR⟩; obtain ⟨ad, eA, hb0⟩ := Kd.at_int (hC w5 hR.step) 0 (by omega) (by have := HL.out; omega); have R2 := A0 (impl_readTable.Rs.trans (rsK R.out) hR); clear R hR hC; have R := R2; clear R2; subst eA; obtain ⟨_, _, _⟩ := c3 R.out.blk; obtain ⟨_, _, _⟩ := f3 R.out.blk; rw [HL.out]; have hb1 : w5.cell? ad = some (.int .u8 (rd M 0)) := by simpa [Addr.add] using hb0))
  go_ret
  exact ⟨rfl, (rsK R.out)⟩
def impl_readTable.ag (k : Nat) (l : List Int) (at_ : Int) (bad : Bool) (size : Int) : Option (S49 × Int × Bool) := (impl_readTable.tk l at_ bad size).bind fun p => if p.2.2 = true ∨ size = 0 then some (z49, p.2.1, p.2.2) else (impl_ReadAgg.f k p.1).bind fun q => some (⟨q.1, q.2.1, q.2.2.1, q.2.2.2.1, q.2.2.2.2.1, q.2.2.2.2.2.1⟩, p.2.1, !q.2.2.2.2.2.2)
set_option maxHeartbeats 8000000 in
set_option maxRecDepth 100000 in
/-- an agg is read -/
theorem impl_readTable.agg_at (k : Nat) (l : List Int) (at_ : Int) (bad : Bool) (size : Int) (x : S49) (at2 : Int) (bad2 : Bool) (A : Option Addr) (c gr : Nat) (w W : World) (hr : ∀ V, Gr gr w V → Kd.C (Kd.int .u8) V A l.length l) (hc : l.length ≤ c) (R : impl_readTable.Rs gr w A l.length c at_ bad W) (h : impl_readTable.ag k l at_ bad size = some (x, at2, bad2)) :
  Calls Try.prog 92 #[.pointer (some ⟨gr, 0, none⟩), .int .i64 size] W fun e w' => ∃ v4, e = .returned (.agg #[.int .i64 x.f0, .int .i64 x.f1, .int .i64 x.f2, .int .i64 x.f3, v4, .bool x.f5]) ∧ Kd.Q (Kd.int .i64) 3 w' W.heap.size (fun _ => True) v4 x.f4 ∧ impl_readTable.Rs gr W A l.length c at2 bad2 w' := by
 have hu := Try.underlying92
 have hu2 := Try.underlying49
 unfold impl_readTable.ag at h
 obtain ⟨⟨M, a2, b2⟩, h1, h⟩ := Option.bind_eq_some_iff.mp h
 dsimp only at h
 have HT := A0 h1
 have HR := A0 (fun V hV => hr V (R.step.trans hV))
 have HC := A0 hc
 have R1 := A0 (⟨Gr.refl gr W, R.blk⟩ : impl_readTable.Rs gr W A l.length c at_ bad W)
 clear h1 hr hc R
 have R := R1
 clear R1
 go_enter Try.func92, Try.ntmps92
 by_cases hz : b2 = true ∨ size = 0
 ·rw [if_pos hz] at h
  simp only [Option.some.injEq, Prod.mk.injEq] at h; obtain ⟨rfl, rfl, rfl⟩ := h; have HZ := A0 hz; clear hz
  cases b2 with
  | true =>
   go_wp2_with (first | ((with_reducible refine gate_dst (N := 4) rfl ?_); refine box_event ?hg (N := 4) ?hd (cs := #[.int .i64 0, .int .i64 0, .int .i64 0, .int .i64 0, .slice none 0 0, .bool false]) (t := 49) ?hr ?_; (case hd => rfl); (case hg => rfl); (case hr => first | (go_simp; done) | (go_simp; rfl)); intro g4 hg w4 hbox hb; have G4 := A0 (show W.heap.size ≤ g4 by rw [hg]; exact (show impl_readTable.Rs gr W A l.length c at_ bad _ from (rsK R.out)).step.size); have N4 := A0 (show g4 ≠ gr by rw [hg]; exact Nat.ne_of_gt (blk_lt (show impl_readTable.Rs gr W A l.length c at_ bad _ from (rsK R.out)).blk)); have R2 := A0 (impl_readTable.Rs.below (rsK R.out) hb); have BK := A0 hbox; clear R hg hbox hb; have R := R2; clear R2) | (go_at_call 91; (with_reducible refine (impl_readTable.take_at k l at_ bad _ M a2 _ A c gr W _ HR.out HC.out (rsK R.out) HT.out).mono ?_); rintro e w5 ⟨A2, c2, rfl, h2, hC, hR⟩; have HM := A0 (hC w5 hR.step); have HM2 := A0 h2; have BK2 := A0 (hR.step.blk (bK BK.out) N4.out); have R2 := A0 (impl_readTable.Rs.trans (rsK R.out) hR); clear R BK hR hC h2; have R := R2; have BK := BK2; clear R2 BK2; obtain ⟨_, _, _⟩ := c3 R.out.blk; obtain ⟨_, _, _⟩ := f3 R.out.blk; obtain ⟨_, _, _, _, _, _⟩ := kc6 BK.out; obtain ⟨_, _, _, _, _, _⟩ := kf6 BK.out))
   refine bodyPost_ret (results_cell_row rfl _ _ g4 49 #[.int .i64 0, .int .i64 0, .int .i64 0, .int .i64 0, .slice none 0 0, .bool false] (0, 0) _ rfl (by exact bK (p6 BK.out)) Try.underlying49 rfl (by kernel_rfl)) rfl ?_; exact ⟨_, rfl, Kd.Q_nil _ _ _ _ _, (rsF R.out)⟩
  | false =>
   obtain rfl : size = 0 := HZ.out.resolve_left (by decide)
   go_wp2_with (first | ((with_reducible refine gate_dst (N := 4) rfl ?_); refine box_event ?hg (N := 4) ?hd (cs := #[.int .i64 0, .int .i64 0, .int .i64 0, .int .i64 0, .slice none 0 0, .bool false]) (t := 49) ?hr ?_; (case hd => rfl); (case hg => rfl); (case hr => first | (go_simp; done) | (go_simp; rfl)); intro g4 hg w4 hbox hb; have G4 := A0 (show W.heap.size ≤ g4 by rw [hg]; exact (show impl_readTable.Rs gr W A l.length c at_ bad _ from (rsK R.out)).step.size); have N4 := A0 (show g4 ≠ gr by rw [hg]; exact Nat.ne_of_gt (blk_lt (show impl_readTable.Rs gr W A l.length c at_ bad _ from (rsK R.out)).blk)); have R2 := A0 (impl_readTable.Rs.below (rsK R.out) hb); have BK := A0 hbox; clear R hg hbox hb; have R := R2; clear R2) | (go_at_call 91; (with_reducible refine (impl_readTable.take_at k l at_ bad _ M a2 _ A c gr W _ HR.out HC.out (rsK R.out) HT.out).mono ?_); rintro e w5 ⟨A2, c2, rfl, h2, hC, hR⟩; have HM := A0 (hC w5 hR.step); have HM2 := A0 h2; have BK2 := A0 (hR.step.blk (bK BK.out) N4.out); have R2 := A0 (impl_readTable.Rs.trans (rsK R.out) hR); clear R BK hR hC h2; have R := R2; have BK := BK2; clear R2 BK2; obtain ⟨_, _, _⟩ := c3 R.out.blk; obtain ⟨_, _, _⟩ := f3 R.out.blk; obtain ⟨_, _, _, _, _, _⟩ := kc6 BK.out; obtain ⟨_, _, _, _, _, _⟩ := kf6 BK.out))
   refine bodyPost_ret (results_cell_row rfl _ _ g4 49 #[.int .i64 0, .int .i64 0, .int .i64 0, .int .i64 0, .slice none 0 0, .bool false] (0, 0) _ rfl (by exact bK (p6 BK.out)) Try.underlying49 rfl (by kernel_rfl)) rfl ?_; exact ⟨_, rfl, Kd.Q_nil _ _ _ _ _, (rsF R.out)⟩
 ·rw [if_neg hz] at h
  obtain ⟨⟨r1, r2, r3, r4, r5, r6, r7⟩, h3, h⟩ := Option.bind_eq_some_iff.mp h; simp only [Option.some.injEq, Prod.mk.injEq] at h; obtain ⟨rfl, rfl, rfl⟩ := h; have HA := A0 h3
  have hz1 : b2 = false := by cases b2 <;> simp_all
  have hz2 : (size == 0) = false := beq_eq_false_iff_ne.mpr (fun e => hz (.inr e)); subst hz1; clear hz h3
  go_wp2_with (first | ((with_reducible refine gate_dst (N := 4) rfl ?_); refine box_event ?hg (N := 4) ?hd (cs := #[.int .i64 0, .int .i64 0, .int .i64 0, .int .i64 0, .slice none 0 0, .bool false]) (t := 49) ?hr ?_; (case hd => rfl); (case hg => rfl); (case hr => first | (go_simp; done) | (go_simp; rfl)); intro g4 hg w4 hbox hb; have G4 := A0 (show W.heap.size ≤ g4 by rw [hg]; exact (show impl_readTable.Rs gr W A l.length c at_ bad _ from (rsK R.out)).step.size); have N4 := A0 (show g4 ≠ gr by rw [hg]; exact Nat.ne_of_gt (blk_lt (show impl_readTable.Rs gr W A l.length c at_ bad _ from (rsK R.out)).blk)); have R2 := A0 (impl_readTable.Rs.below (rsK R.out) hb); have BK := A0 hbox; clear R hg hbox hb; have R := R2; clear R2) | (go_at_call 91; (with_reducible refine (impl_readTable.take_at k l at_ bad _ M a2 _ A c gr W _ HR.out HC.out (rsK R.out) HT.out).mono ?_); rintro e w5 ⟨A2, c2, rfl, h2, hC, hR⟩; have HM := A0 (hC w5 hR.step); have HM2 := A0 h2; have BK2 := A0 (hR.step.blk (bK BK.out) N4.out); have R2 := A0 (impl_readTable.Rs.trans (rsK R.out) hR); clear R BK hR hC h2; have R := R2; have BK := BK2; clear R2 BK2; obtain ⟨_, _, _⟩ := c3 R.out.blk; obtain ⟨_, _, _⟩ := f3 R.out.blk; obtain ⟨_, _, _, _, _, _⟩ := kc6 BK.out; obtain ⟨_, _, _, _, _, _⟩ := kf6 BK.out) | (go_at_call 113; (with_reducible refine (impl_ReadAgg.calls k A2 c2 M r1 r2 r3 r4 r5 r6 r7 _ (cK HM.out) HM2.out HA.out).mono ?_); rintro e w9 ⟨v4, rfl, hq, hb⟩; obtain ⟨Aq, cq, eq4, _⟩ := Kd.Q_slice hq; subst eq4; have BK2 := A0 (blk_below (bK BK.out) hb); have R2 := A0 (impl_readTable.Rs.below (rsK R.out) hb); have QH := A0 (Kd.Q_lower hq (show W.heap.size ≤ _ from (show impl_readTable.Rs gr W A l.length c a2 false _ from (rsK R.out)).step.size)); clear R BK hq hb HM; have R := R2; have BK := BK2; clear R2 BK2; obtain ⟨_, _, _⟩ := c3 R.out.blk; obtain ⟨_, _, _⟩ := f3 R.out.blk; obtain ⟨_, _, _, _, _, _⟩ := kc6 BK.out; obtain ⟨_, _, _, _, _, _⟩ := kf6 BK.out) | ((with_reducible refine gate_dst (N := 6) rfl ?_); refine box_event ?hg (N := 6) ?hd (cs := #[.int .i64 0, .int .i64 0, .int .i64 0, .int .i64 0, .slice none 0 0, .bool false]) (t := 49) ?hr ?_; (case hd => rfl); (case hg => rfl); (case hr => first | (go_simp; done) | (go_simp; rfl)); intro g6 hg w6 hbox hb; have G6 := A0 (show W.heap.size ≤ g6 by rw [hg]; exact (show impl_readTable.Rs gr W A l.length c a2 false _ from (rsK R.out)).step.size); have N6 := A0 (show g6 ≠ gr by rw [hg]; exact Nat.ne_of_gt (blk_lt (show impl_readTable.Rs gr W A l.length c a2 false _ from (rsK R.out)).blk)); have N46 := A0 (show g4 ≠ g6 by rw [hg]; exact Nat.ne_of_lt (blk_lt (bK BK.out))); have R2 := A0 (impl_readTable.Rs.below (rsK R.out) hb); have BK2 := A0 (blk_below (bK BK.out) hb); have B6 := A0 hbox; have QH2 := A0 (Kd.Q_below (show Kd.Q (Kd.int .i64) 3 _ W.heap.size (fun _ => True) (.slice Aq r5.length cq) r5 from (by with_reducible repeat (first | exact QH.out | apply Kd.Q_drewN | apply Kd.Q_drew | apply Kd.Q_alloc))) hb); clear R BK QH hg hbox hb; have QH := QH2; clear QH2; have R := R2; have BK := BK2; clear R2 BK2; obtain ⟨_, _, _⟩ := c3 R.out.blk; obtain ⟨_, _, _⟩ := f3 R.out.blk; obtain ⟨_, _, _, _, _, _⟩ := kc6 BK.out; obtain ⟨_, _, _, _, _, _⟩ := kf6 BK.out; obtain ⟨_, _, _, _, _, _⟩ := kc6 B6.out; obtain ⟨_, _, _, _, _, _⟩ := kf6 B6.out; have n1 := N6.out; have n2 := N6.out.symm; have n3 := N46.out; have n4 := N46.out.symm; have n5 := N4.out; have n6 := N4.out.symm))
  refine bodyPost_ret (results_cell_row rfl _ _ g4 49 #[.int .i64 r1, .int .i64 r2, .int .i64 r3, .int .i64 r4, .slice Aq r5.length cq, .bool r6] (0, 0) _ rfl (by refine bK (p6 (show _ = some (Obj.cells #[.int .i64 0, .int .i64 0, .int .i64 0, .int .i64 0, .slice none 0 0, .bool false] 49 (0, 0)) from ?_)); refine blk_far ?_ n5 _; exact bF BK.out n3) Try.underlying49 rfl (by kernel_rfl)) rfl ?_; refine ⟨_, rfl, Kd.Q_mono (Kd.Q_kept (S := fun k => k = g4 ∨ k = gr ∨ k = g6) (Kd.Q_types (Kd.Q_types (Kd.Q_types QH.out BK.out (by decide)) R.out.blk (by decide)) B6.out (by decide)) ?hk (fun k h hs => by rcases hs with e | e | e; exact h.1.1.2 e; exact h.1.2 e; exact h.2 e)) (fun _ _ => trivial), by with_reducible repeat (first | exact R.out | apply impl_readTable.Rs.drewN | apply impl_readTable.Rs.drew | refine impl_readTable.Rs.far ?_ G4.out N4.out _ _ | refine impl_readTable.Rs.far ?_ G6.out N6.out _ _ | refine impl_readTable.Rs.set2 (bad := false) ?_ _)⟩
  with_reducible repeat (first | exact Kept.refl _ _ | apply Kept.drewN | apply Kept.drew | refine Kept.setCell ?_ (.inl (.inl rfl)) _ | refine Kept.setCell ?_ (.inl (.inr (.inl rfl))) _ | refine Kept.setCell ?_ (.inl (.inr (.inr rfl))) _)
def impl_readTable.en (k : Nat) (l : List Int) (at_ : Int) (bad : Bool) (before : ByteArray) : Option (S51 × Int × Bool) :=
 (impl_readTable.num k l at_ bad).bind fun p1 => (impl_readTable.num k l p1.2.1 p1.2.2).bind fun p2 => (impl_readTable.num k l p2.2.1 p2.2.2).bind fun p3 => (impl_readTable.kd l p3.2.1 p3.2.2).bind fun p4 => (impl_readTable.num k l p4.2.1 p4.2.2).bind fun p5 => (impl_readTable.tk l p5.2.1 p5.2.2 p2.1).bind fun p6 =>
  if p1.1 > (before.size : Int) then some (z51, p6.2.1, true) else if 0 ≤ p1.1 ∧ p1.1.toNat + (strOfNums p6.1).size ≤ 1000000 then (impl_readTable.ag k l p6.2.1 p6.2.2 p5.1).bind fun p7 => some (⟨before.extract 0 p1.1.toNat ++ strOfNums p6.1, p3.1, p4.1, p7.1⟩, p7.2.1, p7.2.2) else none
set_option maxHeartbeats 8000000 in
set_option maxRecDepth 100000 in
/-- an entry is read -/
theorem impl_readTable.entry_at (k : Nat) (l : List Int) (at_ : Int) (bad : Bool) (before : ByteArray) (x : S51) (at2 : Int) (bad2 : Bool) (A : Option Addr) (c gr : Nat) (w W : World) (hr : ∀ V, Gr gr w V → Kd.C (Kd.int .u8) V A l.length l) (hc : l.length ≤ c) (R : impl_readTable.Rs gr w A l.length c at_ bad W) (h : impl_readTable.en k l at_ bad before = some (x, at2, bad2)) :
  Calls Try.prog 62 #[.pointer (some ⟨gr, 0, none⟩), .string before] W fun e w' => ∃ v7, e = .returned (.agg #[.string x.f0, .int .i64 x.f1, .int .i64 x.f2, .int .i64 x.f3.f0, .int .i64 x.f3.f1, .int .i64 x.f3.f2, .int .i64 x.f3.f3, v7, .bool x.f3.f5]) ∧ Kd.Q (Kd.int .i64) 3 w' W.heap.size (fun _ => True) v7 x.f3.f4 ∧ impl_readTable.Rs gr W A l.length c at2 bad2 w' := by
 have hu := Try.underlying92
 have hu2 := Try.underlying49
 have hu3 := Try.underlying51
 unfold impl_readTable.en at h
 obtain ⟨⟨n1, t1, b1⟩, h1, h⟩ := Option.bind_eq_some_iff.mp h
 obtain ⟨⟨n2, t2, b2⟩, h2, h⟩ := Option.bind_eq_some_iff.mp h
 obtain ⟨⟨n3, t3, b3⟩, h3, h⟩ := Option.bind_eq_some_iff.mp h
 obtain ⟨⟨n4, t4, b4⟩, h4, h⟩ := Option.bind_eq_some_iff.mp h
 obtain ⟨⟨n5, t5, b5⟩, h5, h⟩ := Option.bind_eq_some_iff.mp h
 obtain ⟨⟨M, t6, b6⟩, h6, h⟩ := Option.bind_eq_some_iff.mp h
 dsimp only at h h2 h3 h4 h5 h6
 have H1 := A0 h1
 have H2 := A0 h2
 have H3 := A0 h3
 have H4 := A0 h4
 have H5 := A0 h5
 have H6 := A0 h6
 have HR := A0 (fun V hV => hr V (R.step.trans hV))
 have HC := A0 hc
 have R1 := A0 (⟨Gr.refl gr W, R.blk⟩ : impl_readTable.Rs gr W A l.length c at_ bad W)
 clear h1 h2 h3 h4 h5 h6 hr hc R
 have R := R1
 clear R1
 go_enter Try.func62, Try.ntmps62
 by_cases hn : n1 > (before.size : Int)
 ·rw [if_pos hn] at h
  simp only [Option.some.injEq, Prod.mk.injEq] at h; obtain ⟨rfl, rfl, rfl⟩ := h
  go_wp2_with (first | ((with_reducible refine gate_dst (N := 4) rfl ?_); refine box_event ?hg (N := 4) ?hd (cs := #[.string (⟨#[]⟩ : ByteArray), .int .i64 0, .int .i64 0, .int .i64 0, .int .i64 0, .int .i64 0, .int .i64 0, .slice none 0 0, .bool false]) (t := 51) ?hr ?_; (case hd => rfl); (case hg => rfl); (case hr => first | (go_simp; done) | (go_simp; rfl)); intro g4 hg w4 hbox hb; have G4 := A0 (show W.heap.size ≤ g4 by rw [hg]; exact (show impl_readTable.Rs gr W A l.length c at_ bad _ from (rsK R.out)).step.size); have N4 := A0 (show g4 ≠ gr by rw [hg]; exact Nat.ne_of_gt (blk_lt (show impl_readTable.Rs gr W A l.length c at_ bad _ from (rsK R.out)).blk)); have R2 := A0 (impl_readTable.Rs.below (rsK R.out) hb); have BK := A0 hbox; clear R hg hbox hb; have R := R2; clear R2) | ((with_reducible refine gate_dst (N := 7) rfl ?_); refine box_event ?hg (N := 7) ?hd (cs := #[.string (⟨#[]⟩ : ByteArray), .int .i64 0, .int .i64 0, .int .i64 0, .int .i64 0, .int .i64 0, .int .i64 0, .slice none 0 0, .bool false]) (t := 51) ?hr ?_; (case hd => rfl); (case hg => rfl); (case hr => first | (go_simp; done) | (go_simp; rfl)); intro g7 hg w7 hbox hb; have G7 := A0 (show W.heap.size ≤ g7 by rw [hg]; exact (show impl_readTable.Rs gr W A l.length c t4 b4 _ from (rsK R.out)).step.size); have N7 := A0 (show g7 ≠ gr by rw [hg]; exact Nat.ne_of_gt (blk_lt (show impl_readTable.Rs gr W A l.length c t4 b4 _ from (rsK R.out)).blk)); have N47 := A0 (show g4 ≠ g7 by rw [hg]; exact Nat.ne_of_lt (blk_lt (bK BK.out))); have R2 := A0 (impl_readTable.Rs.below (rsK R.out) hb); have BK2 := A0 (blk_below (bK BK.out) hb); have B7 := A0 hbox; clear R BK hg hbox hb; have R := R2; have BK := BK2; clear R2 BK2; obtain ⟨_, _, _, _, _, _, _, _, _⟩ := kc9 B7.out; obtain ⟨_, _, _, _, _, _, _, _, _⟩ := kf9 B7.out) | (go_at_call 89; (with_reducible refine (impl_readTable.num_at k l _ _ n1 t1 b1 A c gr W _ HR.out HC.out (rsF R.out) H1.out).mono ?_); rintro e w11 ⟨rfl, hR⟩; have R2 := A0 (impl_readTable.Rs.trans (rsF R.out) hR); have BK2 := A0 (hR.step.blk (bK BK.out) N4.out); clear R BK; have R := R2; have BK := BK2; clear R2 BK2; clear H1 hR) | (go_at_call 89; (with_reducible refine (impl_readTable.num_at k l _ _ n2 t2 b2 A c gr W _ HR.out HC.out (rsF R.out) H2.out).mono ?_); rintro e w12 ⟨rfl, hR⟩; have R2 := A0 (impl_readTable.Rs.trans (rsF R.out) hR); have BK2 := A0 (hR.step.blk (bK BK.out) N4.out); clear R BK; have R := R2; have BK := BK2; clear R2 BK2; clear H2 hR) | (go_at_call 89; (with_reducible refine (impl_readTable.num_at k l _ _ n3 t3 b3 A c gr W _ HR.out HC.out (rsF R.out) H3.out).mono ?_); rintro e w13 ⟨rfl, hR⟩; have R2 := A0 (impl_readTable.Rs.trans (rsF R.out) hR); have BK2 := A0 (hR.step.blk (bK BK.out) N4.out); clear R BK; have R := R2; have BK := BK2; clear R2 BK2; clear H3 hR) | (go_at_call 90; (with_reducible refine (impl_readTable.kind_at k l _ _ n4 t4 b4 A c gr W _ HR.out HC.out (rsF R.out) H4.out).mono ?_); rintro e w14 ⟨rfl, hR⟩; have R2 := A0 (impl_readTable.Rs.trans (rsF R.out) hR); have BK2 := A0 (hR.step.blk (bK BK.out) N4.out); clear R BK; have R := R2; have BK := BK2; clear R2 BK2; clear H4 hR) | (go_at_call 89; (with_reducible refine (impl_readTable.num_at k l _ _ n5 t5 b5 A c gr W _ HR.out HC.out (rsF R.out) H5.out).mono ?_); rintro e w15 ⟨rfl, hR⟩; have R2 := A0 (impl_readTable.Rs.trans (W := W) (at_ := t4) (bad := b4) (rsF R.out) hR); have BK2 := A0 (hR.step.blk (bF BK.out N47.out) N4.out); have B72 := A0 (hR.step.blk (bK (p9 B7.out)) N7.out); clear R BK B7; have R := R2; have BK := BK2; have B7 := B72; clear R2 BK2 B72; clear H5 hR) | (go_at_call 91; (with_reducible refine (impl_readTable.take_at k l _ _ _ M t6 b6 A c gr W _ HR.out HC.out (rsF R.out) H6.out).mono ?_); rintro e w16 ⟨A2, c2, rfl, hl2, hC, hR⟩; have hcv := Kd.C_string (P := Try.prog) (A := A2) (c := c2) Try.underlying24 Try.underlying5 Try.underlying9 (hC w16 hR.step); have R2 := A0 (impl_readTable.Rs.trans (rsF R.out) hR); have BK2 := A0 (hR.step.blk (bK BK.out) N4.out); have B72 := A0 (hR.step.blk (bK B7.out) N7.out); clear R BK B7; have R := R2; have BK := BK2; have B7 := B72; clear R2 BK2 B72; clear H6 hR hC; obtain ⟨_, _, _⟩ := c3 R.out.blk; obtain ⟨_, _, _⟩ := f3 R.out.blk; obtain ⟨_, _, _, _, _, _, _, _, _⟩ := kc9 BK.out; obtain ⟨_, _, _, _, _, _, _, _, _⟩ := kf9 BK.out; obtain ⟨_, _, _, _, _, _, _, _, _⟩ := kc9 B7.out; obtain ⟨_, _, _, _, _, _, _, _, _⟩ := kf9 B7.out; have q1 := N4.out; have q2 := N4.out.symm; have q3 := N7.out; have q4 := N7.out.symm; have q5 := N47.out; have q6 := N47.out.symm))
  refine bodyPost_ret (results_cell_row rfl _ _ g4 51 #[.string (⟨#[]⟩ : ByteArray), .int .i64 0, .int .i64 0, .int .i64 0, .int .i64 0, .int .i64 0, .int .i64 0, .slice none 0 0, .bool false] (0, 0) _ rfl (by refine bK (p9 (show _ = some (Obj.cells #[.string (⟨#[]⟩ : ByteArray), .int .i64 0, .int .i64 0, .int .i64 0, .int .i64 0, .int .i64 0, .int .i64 0, .slice none 0 0, .bool false] 51 (0, 0)) from ?_)); refine blk_far ?_ N4.out _; exact bK BK.out) Try.underlying51 rfl (by kernel_rfl)) rfl ?_; exact ⟨_, rfl, Kd.Q_nil _ _ _ _ _, by with_reducible repeat (first | exact R.out | apply impl_readTable.Rs.drewN | apply impl_readTable.Rs.drew | refine impl_readTable.Rs.far ?_ G4.out N4.out _ _ | refine impl_readTable.Rs.set2 (bad := b6) ?_ _)⟩
 ·rw [if_neg hn] at h
  by_cases hn0 : 0 ≤ n1 ∧ n1.toNat + (strOfNums M).size ≤ 1000000
  case neg => rw [if_neg hn0] at h; cases h
  rw [if_pos hn0] at h; obtain ⟨hn0, hn2⟩ := hn0; obtain ⟨⟨y, t7, b7⟩, h7, h⟩ := Option.bind_eq_some_iff.mp h; simp only [Option.some.injEq, Prod.mk.injEq] at h; obtain ⟨rfl, rfl, rfl⟩ := h; have H7 := A0 h7
  have hn1 : n1 ≤ (before.size : Int) := by omega
  have hd0 : decide ((before.size : Int) < n1) = false := decide_eq_false (by omega); clear h7
  go_wp2_with (first | ((with_reducible refine gate_dst (N := 4) rfl ?_); refine box_event ?hg (N := 4) ?hd (cs := #[.string (⟨#[]⟩ : ByteArray), .int .i64 0, .int .i64 0, .int .i64 0, .int .i64 0, .int .i64 0, .int .i64 0, .slice none 0 0, .bool false]) (t := 51) ?hr ?_; (case hd => rfl); (case hg => rfl); (case hr => first | (go_simp; done) | (go_simp; rfl)); intro g4 hg w4 hbox hb; have G4 := A0 (show W.heap.size ≤ g4 by rw [hg]; exact (show impl_readTable.Rs gr W A l.length c at_ bad _ from (rsK R.out)).step.size); have N4 := A0 (show g4 ≠ gr by rw [hg]; exact Nat.ne_of_gt (blk_lt (show impl_readTable.Rs gr W A l.length c at_ bad _ from (rsK R.out)).blk)); have R2 := A0 (impl_readTable.Rs.below (rsK R.out) hb); have BK := A0 hbox; clear R hg hbox hb; have R := R2; clear R2) | ((with_reducible refine gate_dst (N := 7) rfl ?_); refine box_event ?hg (N := 7) ?hd (cs := #[.string (⟨#[]⟩ : ByteArray), .int .i64 0, .int .i64 0, .int .i64 0, .int .i64 0, .int .i64 0, .int .i64 0, .slice none 0 0, .bool false]) (t := 51) ?hr ?_; (case hd => rfl); (case hg => rfl); (case hr => first | (go_simp; done) | (go_simp; rfl)); intro g7 hg w7 hbox hb; have G7 := A0 (show W.heap.size ≤ g7 by rw [hg]; exact (show impl_readTable.Rs gr W A l.length c t4 b4 _ from (rsK R.out)).step.size); have N7 := A0 (show g7 ≠ gr by rw [hg]; exact Nat.ne_of_gt (blk_lt (show impl_readTable.Rs gr W A l.length c t4 b4 _ from (rsK R.out)).blk)); have N47 := A0 (show g4 ≠ g7 by rw [hg]; exact Nat.ne_of_lt (blk_lt (bK BK.out))); have R2 := A0 (impl_readTable.Rs.below (rsK R.out) hb); have BK2 := A0 (blk_below (bK BK.out) hb); have B7 := A0 hbox; clear R BK hg hbox hb; have R := R2; have BK := BK2; clear R2 BK2; obtain ⟨_, _, _, _, _, _, _, _, _⟩ := kc9 B7.out; obtain ⟨_, _, _, _, _, _, _, _, _⟩ := kf9 B7.out) | (go_at_call 89; (with_reducible refine (impl_readTable.num_at k l _ _ n1 t1 b1 A c gr W _ HR.out HC.out (rsF R.out) H1.out).mono ?_); rintro e w11 ⟨rfl, hR⟩; have R2 := A0 (impl_readTable.Rs.trans (rsF R.out) hR); have BK2 := A0 (hR.step.blk (bK BK.out) N4.out); clear R BK; have R := R2; have BK := BK2; clear R2 BK2; clear H1 hR) | (go_at_call 89; (with_reducible refine (impl_readTable.num_at k l _ _ n2 t2 b2 A c gr W _ HR.out HC.out (rsF R.out) H2.out).mono ?_); rintro e w12 ⟨rfl, hR⟩; have R2 := A0 (impl_readTable.Rs.trans (rsF R.out) hR); have BK2 := A0 (hR.step.blk (bK BK.out) N4.out); clear R BK; have R := R2; have BK := BK2; clear R2 BK2; clear H2 hR) | (go_at_call 89; (with_reducible refine (impl_readTable.num_at k l _ _ n3 t3 b3 A c gr W _ HR.out HC.out (rsF R.out) H3.out).mono ?_); rintro e w13 ⟨rfl, hR⟩; have R2 := A0 (impl_readTable.Rs.trans (rsF R.out) hR); have BK2 := A0 (hR.step.blk (bK BK.out) N4.out); clear R BK; have R := R2; have BK := BK2; clear R2 BK2; clear H3 hR) | (go_at_call 90; (with_reducible refine (impl_readTable.kind_at k l _ _ n4 t4 b4 A c gr W _ HR.out HC.out (rsF R.out) H4.out).mono ?_); rintro e w14 ⟨rfl, hR⟩; have R2 := A0 (impl_readTable.Rs.trans (rsF R.out) hR); have BK2 := A0 (hR.step.blk (bK BK.out) N4.out); clear R BK; have R := R2; have BK := BK2; clear R2 BK2; clear H4 hR) | (go_at_call 89; (with_reducible refine (impl_readTable.num_at k l _ _ n5 t5 b5 A c gr W _ HR.out HC.out (rsF R.out) H5.out).mono ?_); rintro e w15 ⟨rfl, hR⟩; have R2 := A0 (impl_readTable.Rs.trans (W := W) (at_ := t4) (bad := b4) (rsF R.out) hR); have BK2 := A0 (hR.step.blk (bF BK.out N47.out) N4.out); have B72 := A0 (hR.step.blk (bK (p9 B7.out)) N7.out); clear R BK B7; have R := R2; have BK := BK2; have B7 := B72; clear R2 BK2 B72; clear H5 hR) | (go_at_call 91; (with_reducible refine (impl_readTable.take_at k l _ _ _ M t6 b6 A c gr W _ HR.out HC.out (rsF R.out) H6.out).mono ?_); rintro e w16 ⟨A2, c2, rfl, hl2, hC, hR⟩; have hcv := Kd.C_string (P := Try.prog) (A := A2) (c := c2) Try.underlying24 Try.underlying5 Try.underlying9 (hC w16 hR.step); have R2 := A0 (impl_readTable.Rs.trans (rsF R.out) hR); have BK2 := A0 (hR.step.blk (bK BK.out) N4.out); have B72 := A0 (hR.step.blk (bK B7.out) N7.out); clear R BK B7; have R := R2; have BK := BK2; have B7 := B72; clear R2 BK2 B72; clear H6 hR hC; obtain ⟨_, _, _⟩ := c3 R.out.blk; obtain ⟨_, _, _⟩ := f3 R.out.blk; obtain ⟨_, _, _, _, _, _, _, _, _⟩ := kc9 BK.out; obtain ⟨_, _, _, _, _, _, _, _, _⟩ := kf9 BK.out; obtain ⟨_, _, _, _, _, _, _, _, _⟩ := kc9 B7.out; obtain ⟨_, _, _, _, _, _, _, _, _⟩ := kf9 B7.out; have q1 := N4.out; have q2 := N4.out.symm; have q3 := N7.out; have q4 := N7.out.symm; have q5 := N47.out; have q6 := N47.out.symm) | (go_at_call 92; (with_reducible refine (impl_readTable.agg_at k l _ _ _ y t7 b7 A c gr W _ HR.out HC.out (rsF R.out) H7.out).mono ?_); rintro e w17 ⟨v4, rfl, hq, hR⟩; obtain ⟨Aq, cq, eq4, _⟩ := Kd.Q_slice hq; subst eq4; have QH := A0 (Kd.Q_lower hq (show W.heap.size ≤ _ from (show impl_readTable.Rs gr W A l.length c t6 b6 _ from (rsF R.out)).step.size)); have R2 := A0 (impl_readTable.Rs.trans (W := W) (at_ := t6) (bad := b6) (rsF R.out) hR); have BK2 := A0 (hR.step.blk (bF BK.out N47.out) N4.out); have B72 := A0 (hR.step.blk (bK (blk_put B7.out 0 (.string (before.extract 0 n1.toNat ++ strOfNums M)) rfl)) N7.out); clear R BK B7 hR H7 hq; have R := R2; have BK := BK2; have B7 := B72; clear R2 BK2 B72; obtain ⟨_, _, _⟩ := c3 R.out.blk; obtain ⟨_, _, _⟩ := f3 R.out.blk; obtain ⟨_, _, _, _, _, _, _, _, _⟩ := kc9 BK.out; obtain ⟨_, _, _, _, _, _, _, _, _⟩ := kf9 BK.out; obtain ⟨_, _, _, _, _, _, _, _, _⟩ := kc9 B7.out; obtain ⟨_, _, _, _, _, _, _, _, _⟩ := kf9 B7.out; have q1 := N4.out; have q2 := N4.out.symm; have q3 := N7.out; have q4 := N7.out.symm; have q5 := N47.out; have q6 := N47.out.symm))
  refine bodyPost_ret (results_cell_row rfl _ _ g4 51 #[.string (before.extract 0 n1.toNat ++ strOfNums M), .int .i64 n3, .int .i64 n4, .int .i64 y.f0, .int .i64 y.f1, .int .i64 y.f2, .int .i64 y.f3, .slice Aq y.f4.length cq, .bool y.f5] (0, 0) _ rfl (by refine bK (p9 (show _ = some (Obj.cells #[.string (⟨#[]⟩ : ByteArray), .int .i64 0, .int .i64 0, .int .i64 0, .int .i64 0, .int .i64 0, .int .i64 0, .slice none 0 0, .bool false] 51 (0, 0)) from ?_)); exact bF BK.out q5) Try.underlying51 rfl (by kernel_rfl)) rfl ?_; refine ⟨_, rfl, Kd.Q_mono (Kd.Q_kept (S := fun k => k = g4 ∨ k = g7) (Kd.Q_types (Kd.Q_types QH.out BK.out (by decide)) B7.out (by decide)) ?hk (fun k h hs => by rcases hs with e | e; exact h.1.2 e; exact h.2 e)) (fun _ _ => trivial), by with_reducible repeat (first | exact R.out | apply impl_readTable.Rs.drewN | apply impl_readTable.Rs.drew | refine impl_readTable.Rs.far ?_ G4.out N4.out _ _ | refine impl_readTable.Rs.far ?_ G7.out N7.out _ _)⟩
  with_reducible repeat (first | exact Kept.refl _ _ | apply Kept.drewN | apply Kept.drew | refine Kept.setCell ?_ (.inl (.inl rfl)) _ | refine Kept.setCell ?_ (.inl (.inr rfl)) _)
/-! ### the whole table -/
def impl_readTable.run (k : Nat) (l : List Int) : Nat → Option (List S51 × Int × Bool × ByteArray)
 | 0 => some ([], 0, false, ⟨#[]⟩)
 | j + 1 => (impl_readTable.run k l j).bind fun st => (impl_readTable.en k l st.2.1 st.2.2.1 (if j % 4 = 0 then ⟨#[]⟩ else st.2.2.2)).bind fun p => some (st.1 ++ [p.1], p.2.1, p.2.2, p.1.f0)
def impl_readTable.tries (k : Nat) (l : List Int) (E : List S51) : Nat → Nat → Option (List S51 × Int)
 | 0, _ => some ([], 4)
 | d + 1, p => (impl_table.f k E (p : Int)).bind fun t => (bytes_Equal.f t l).bind fun b => if b = true then some (E, 0) else impl_readTable.tries k l E d (p + 1)
def impl_readTable.g (k : Nat) (l : List Int) (many : Nat) : Option (List S51 × Int) := (impl_readTable.run k l many).bind fun st => if st.2.2.1 = true then some ([], 4) else (impl_GoodEntries.f k st.1).bind fun b => if b = true then impl_readTable.tries k l st.1 20 1 else some ([], 4)
def impl_readTable.f (k : Nat) (l : List Int) : Option (List S51 × Int) :=
 if l.length < 20 ∨ 8000 < l.length then some ([], 1) else
 (bytes_Equal.f (l.drop (l.length - 4)) [84, 66, 76, 49]).bind fun m => if m = true then
  (impl_Crc32c.f k (l.take (l.length - 8))).bind fun cr => (impl_fixed.f k (wrap64 cr)).bind fun fx => (bytes_Equal.f ((l.take (l.length - 4)).drop (l.length - 8)) fx).bind fun s => if s = true then
   (impl_places.f k l).bind fun p => (impl_within.f p.2.2 1 100).bind fun i => if i = true then (if 0 ≤ p.2.2 ∧ p.2.2 ≤ 100 then impl_readTable.g k l p.2.2.toNat else none) else some ([], 4)
  else some ([], 3)
 else some ([], 2)
theorem impl_readTable.run_pre (k : Nat) (l : List Int) : ∀ (d j : Nat) st, impl_readTable.run k l (j + d) = some st → ∃ st2, impl_readTable.run k l j = some st2
 | 0, _, st, h => ⟨st, h⟩
 | d + 1, j, st, h => by
  rw [← Nat.add_assoc] at h
  unfold impl_readTable.run at h
  obtain ⟨st2, h2, _⟩ := Option.bind_eq_some_iff.mp h; exact impl_readTable.run_pre k l d j st2 h2
theorem impl_readTable.run_len (k : Nat) (l : List Int) : ∀ (j : Nat) st, impl_readTable.run k l j = some st → st.1.length = j
 | 0, st, h => by simp only [impl_readTable.run, Option.some.injEq] at h; subst h; rfl
 | j + 1, st, h => by
  unfold impl_readTable.run at h
  obtain ⟨st2, h2, h⟩ := Option.bind_eq_some_iff.mp h; obtain ⟨p, _, h⟩ := Option.bind_eq_some_iff.mp h; have := impl_readTable.run_len k l j st2 h2; simp only [Option.some.injEq] at h; subst h
  simp [this]
/-- in the rounds of the reading loop -/
structure impl_readTable.St (w W : World) (gr : Nat) (A : Option Addr) (n c : Nat) (at_ : Int) (bad : Bool) (v : Value) (E : List S51) : Prop where
 blk : W.heap[gr]? = some (.cells #[.slice A n c, .int .i64 at_, .bool bad] 92 (0, 0))
 bel : Below w.heap.size w W
 ents : spec_l7Entries.Ents W w.heap.size v E
section
variable {w W V : World} {gr : Nat} {A : Option Addr} {n c : Nat} {at_ : Int} {bad : Bool} {v : Value} {E : List S51}
theorem impl_readTable.St.drew (h : impl_readTable.St w W gr A n c at_ bad v E) : impl_readTable.St w W.drew gr A n c at_ bad v E := ⟨h.blk, below_drew1 h.bel, h.ents.drew⟩
theorem impl_readTable.St.drewN (h : impl_readTable.St w W gr A n c at_ bad v E) (m : Nat) : impl_readTable.St w (W.drewN m) gr A n c at_ bad v E := ⟨h.blk, pw_below_drewN h.bel m, h.ents.drewN m⟩
/-- a block of the row's own type, which is not the row, has been written -/
theorem impl_readTable.St.far {g : Nat} {cs : Array Value} {t : Nat} (h : impl_readTable.St w W gr A n c at_ bad v E) (hb : W.heap[g]? = some (.cells cs t (0, 0))) (h1 : gr ≠ g) (h2 : some g ≠ v.ownBlock) (h3 : t ≠ 3) (on : On g W V) (hg : w.heap.size ≤ g := by omega) : impl_readTable.St w V gr A n c at_ bad v E :=
 ⟨on.blk h.blk h1, on.below h.bel hg, h.ents.far hb h2 h3 on⟩
theorem impl_readTable.St.read {at2 : Int} {bad2 : Bool} (h : impl_readTable.St w W gr A n c at_ bad v E) (hg : w.heap.size ≤ gr) (hR : impl_readTable.Rs gr W A n c at2 bad2 V) : impl_readTable.St w V gr A n c at2 bad2 v E := ⟨hR.blk, hR.step.below h.bel hg, h.ents.gr hR.step h.blk (by decide) (by decide)⟩
theorem impl_readTable.St.below (h : impl_readTable.St w W gr A n c at_ bad v E) (hb : Below W.heap.size W V) : impl_readTable.St w V gr A n c at_ bad v E := ⟨blk_below h.blk hb, below_step h.bel hb, h.ents.below hb⟩
end
theorem stK {w W V : World} {gr : Nat} {A : Option Addr} {n c : Nat} {at_ : Int} {bad : Bool} {v : Value} {E : List S51} (h : impl_readTable.St w W gr A n c at_ bad v E) (hm : MvA W V := by (with_reducible repeat (first | exact MvA.refl _ | apply MvA.drewN | apply MvA.drew | apply MvA.alloc))) : impl_readTable.St w V gr A n c at_ bad v E := h.below hm.below
set_option maxHeartbeats 8000000 in
set_option maxRecDepth 100000 in
theorem impl_readTable.calls (k : Nat) (A0_ : Option Addr) (c0 : Nat) (l0 : List Int) (r1 : List S51) (r2 : Int) (w : World) (hr0 : Kd.C (Kd.int .u8) w A0_ l0.length l0) (hc0 : l0.length ≤ c0) (h : impl_readTable.f k l0 = some (r1, r2)) :
  Calls Try.prog 32 #[.slice A0_ l0.length c0] w fun e w' => ∃ v, e = .returned (.tuple #[v, .int .i64 r2]) ∧ spec_l7Entries.Ents w' w.heap.size v r1 ∧ Below w.heap.size w w' := by
 have hu := Try.underlying92
 have hu2 := Try.underlying49
 have hu3 := Try.underlying51
 unfold impl_readTable.f at h
 have HR0 := A0 hr0
 have HC0 := A0 hc0
 have HB := A0 (Below.refl w.heap.size w)
 go_enter Try.func32, Try.ntmps32
 by_cases ha : l0.length < 20
 ·rw [if_pos (.inl ha)] at h
  simp only [Option.some.injEq, Prod.mk.injEq] at h; obtain ⟨rfl, rfl⟩ := h; have h1 : decide ((l0.length : Int) < 20) = true := decide_eq_true (by omega); clear hr0 hc0
  go_wp2
  go_ret2
  exact ⟨.slice none 0 0, rfl, spec_l7Entries.Ents.nil _ _, bL HB.out⟩
 by_cases hb : 8000 < l0.length
 ·rw [if_pos (.inr hb)] at h
  simp only [Option.some.injEq, Prod.mk.injEq] at h; obtain ⟨rfl, rfl⟩ := h; have h1 : decide ((l0.length : Int) < 20) = false := decide_eq_false (by omega); have h2 : decide (8000 < (l0.length : Int)) = true := decide_eq_true (by omega); clear hr0 hc0
  go_wp2
  go_ret2
  exact ⟨.slice none 0 0, rfl, spec_l7Entries.Ents.nil _ _, bL HB.out⟩
 rw [if_neg (by omega)] at h
 have h1 : decide ((l0.length : Int) < 20) = false := decide_eq_false (by omega)
 have h2 : decide (8000 < (l0.length : Int)) = false := decide_eq_false (by omega)
 obtain ⟨n4, hn4⟩ : ∃ n4 : Nat, n4 = l0.length - 4 := ⟨_, rfl⟩
 obtain ⟨n8, hn8⟩ : ∃ n8 : Nat, n8 = l0.length - 8 := ⟨_, rfl⟩
 have hw4 : wrap64 ((l0.length : Int) - 4) = (n4 : Int) := by unfold wrap64; omega
 have hw8 : wrap64 ((l0.length : Int) - 8) = (n8 : Int) := by unfold wrap64; omega
 have hl4 : n4 ≤ l0.length := by omega
 have hl48 : n8 ≤ n4 := by omega
 have hl4c : n4 ≤ c0 := by omega
 have hl8c : n8 ≤ c0 := by omega
 have hne4 : ¬ c0 = n4 := by omega
 have hne8 : ¬ c0 = n8 := by omega
 have HC4 := A0 (show ∀ V, Below w.heap.size w V → Kd.C (Kd.int .u8) V (Option.map (fun x => x.add n4) A0_) (l0.drop n4).length (l0.drop n4) from fun V hV => by
  have h3 := Kd.C_drop (c := c0) (Kd.C_below hr0 hV) hl4 hc0
  simpa only [show (Kd.int .u8).sz = 1 from rfl, Nat.mul_one, if_neg hne4] using h3)
 have HC8 := A0 (show ∀ V, Below w.heap.size w V → Kd.C (Kd.int .u8) V (Option.map (fun x => x.add n8) A0_) ((l0.take n4).drop n8).length ((l0.take n4).drop n8) from fun V hV => by
  have h3 := Kd.C_mid (c := c0) (lo := n8) (hi := n4) (Kd.C_below hr0 hV) hl48 hl4 hc0
  simpa only [show (Kd.int .u8).sz = 1 from rfl, Nat.mul_one, if_neg hne8] using h3)
 rw [← hn4, ← hn8] at h
 obtain ⟨m, hm, h⟩ := Option.bind_eq_some_iff.mp h
 have HM := A0 hm
 have H := A0 h
 have e8 : (l0.take n8).length = n8 := by rw [List.length_take]; omega
 have e48 : ((l0.take n4).drop n8).length = n4 - n8 := by rw [List.length_drop, List.length_take]; omega
 have HN := A0 (show 20 ≤ l0.length ∧ l0.length ≤ 8000 ∧ n4 = l0.length - 4 ∧ n8 = l0.length - 8 from by omega)
 clear h hm hr0 ha hb hn4 hn8
 go_upto_if 22 with (first | ((with_reducible refine gate_dst (N := 28) rfl ?_); refine Kd.R_lit (Kd.int .u8) _ 5 ?hg (N := 28) ?hd (xs := ([84, 66, 76, 49] : List Int)) (inner := [.int .u8 84, .int .u8 66, .int .u8 76, .int .u8 49]) (ok := fun _ => True) (okp := fun _ => True) ?hr ?hp (fun _ hk => hk) trivial (Below.refl _ _) (Nat.le_refl _) (by simp) ?_; (case hd => rfl); (case hg => rfl); (case hr => first | (go_simp; done) | (go_simp; rfl)); (case hp => exact Kd.reps_scalar ([84, 66, 76, 49] : List Int)); intro v28 w28 ho hb hg_ hn_; obtain ⟨A28, c28, e28⟩ := Kd.R_slice ho; subst e28; have HL := A0 (Kd.R_reads' ho); have HB2 := A0 (below_step (bL HB.out) hb); clear HB ho hb hg_ hn_; have HB := HB2; clear HB2) | (go_at_call 60; rw [show l0.length - n4 = (l0.drop n4).length from List.length_drop.symm]; refine (bytes_Equal.calls _ _ (l0.drop n4) A28 c28 [84, 66, 76, 49] m _ (HC4.out _ (bL HB.out)) (by rw [List.length_drop]; omega) (cK HL.out.2.2) HL.out.2.1 HM.out).mono ?_; rintro e w29 ⟨rfl, hd⟩; have HB2 := A0 (below_step (bL HB.out) hd.below); clear HB hd HL; have HB := HB2; clear HB2))
 cases m with
 | false =>
  have h := H.out; simp only [Bool.false_eq_true, if_false, Option.some.injEq, Prod.mk.injEq] at h; obtain ⟨rfl, rfl⟩ := h
  go_wp2
  go_ret2
  exact ⟨.slice none 0 0, rfl, spec_l7Entries.Ents.nil _ _, bL HB.out⟩
 | true =>
  have h := H.out; rw [if_pos rfl] at h; obtain ⟨cr, hcr, h⟩ := Option.bind_eq_some_iff.mp h; obtain ⟨fx, hfx, h⟩ := Option.bind_eq_some_iff.mp h; obtain ⟨s, hs, h⟩ := Option.bind_eq_some_iff.mp h; have HCR := A0 hcr; have HFX := A0 hfx; have HS := A0 hs; clear H hcr hfx hs; have H := A0 h; clear h
  go_wp2
  have HB1 := A0 (below_drew1 (bL HB.out)); refine start_ (n := 19) (S := fun _ => True) (ds := []) bq20_17 (by kernel_rfl) rfl rfl trivial (fun hHeld => ?_); clear HB; generalize World.drew _ = w5 at HB1 hHeld ⊢; refine pu_ 0 32 ?_
  refine pu_ 1 33 ?_
  refine pu_ 2 34 ?_
  refine pu_ 3 35 ?_
  refine pu_ 4 36 ?_
  refine pu_ 5 37 ?_
  refine pu_ 6 38 ?_
  refine pu_ 7 39 ?_
  refine pu_ 8 40 ?_
  refine pu_ 9 41 ?_
  refine pu_ 10 42 ?_
  refine pu_ 11 43 ?_
  refine pu_ 12 44 ?_
  refine on_ 13 45 (fun K hK => ?_); refine goes_ Try.func56 (by kernel_rfl) rfl #[.slice A0_ (l0.take n8).length c0] (by rfl) rfl rfl (by (try simp only [List.map_toArray, List.map_cons, List.map_nil, e8]); first | done | rfl) ?_; (with_reducible refine (impl_Crc32c.calls k A0_ c0 (l0.take n8) cr _ (Kd.C_take (Kd.C_below HR0.out HB1.out) (by have := HN.out; omega)) (by rw [e8]; exact hl8c) HCR.out).mono ?_); rintro e w6 ⟨rfl, hd⟩; refine ⟨_, rfl, ?_⟩; have HB := A0 (below_step HB1.out hd.below); clear hd HB1; refine hK.out _ _ trivial (fun hHeld => ?_); clear hK K; refine norm_ (a' := ?_) ?_ ?_; rotate_left
  ·show Act.put _ (some 45) _ = _
   simp only [Act.put, sq_a, sq_b, sq_c, i64_w, i32_w]; rfl
  refine pu_ 14 46 ?_
  refine on_ 15 47 (fun K hK => ?_); refine goes_ Try.func54 (by kernel_rfl) rfl #[.int .i64 (wrap64 cr)] (by rfl) rfl rfl (by (try simp only [List.map_toArray, List.map_cons, List.map_nil]); first | done | rfl) ?_; (with_reducible refine (impl_fixed.calls k (wrap64 cr) fx _ HFX.out).mono ?_); rintro e w7 ⟨v47, rfl, ho, hb⟩; refine ⟨_, rfl, ?_⟩; have HB1 := A0 (below_step HB.out hb); obtain ⟨A47, c47, e47⟩ := Kd.R_slice ho; subst e47; have HL := A0 (Kd.R_reads' ho); clear ho hb HB; refine hK.out _ _ trivial (fun hHeld => ?_); clear hK K; refine norm_ (a' := ?_) ?_ ?_; rotate_left
  ·show Act.put _ (some 47) _ = _
   simp only [Act.put, sq_a, sq_b, sq_c, i64_w, i32_w]; rfl
  refine on_ 16 48 (fun K hK => ?_); refine goes_ Try.func60 (by kernel_rfl) rfl #[.slice (Option.map (fun x => x.add n8) A0_) ((l0.take n4).drop n8).length (c0 - n8), .slice A47 fx.length c47] (by rfl) rfl rfl (by (try simp only [List.map_toArray, List.map_cons, List.map_nil, e48]); first | done | rfl) ?_; (with_reducible refine (bytes_Equal.calls _ _ ((l0.take n4).drop n8) A47 c47 fx s _ (HC8.out _ HB1.out) (by rw [e48]; omega) HL.out.2.2 HL.out.2.1 HS.out).mono ?_); rintro e w8 ⟨rfl, hd⟩; refine ⟨_, rfl, ?_⟩; have HB := A0 (below_step HB1.out hd.below); clear hd HB1 HL; refine hK.out _ _ trivial (fun hHeld => ?_); clear hK K; refine norm_ (a' := ?_) ?_ ?_; rotate_left
  ·show Act.put _ (some 48) _ = _
   simp only [Act.put, sq_a, sq_b, sq_c, i64_w, i32_w]; rfl
  refine pu_ 17 49 ?_
  refine pu_ 18 31 ?_
  refine done_ (by kernel_rfl) ?_; clear hHeld hw4 hw8
  cases s with
  | false =>
   have h := H.out; simp only [Bool.false_eq_true, if_false, Option.some.injEq, Prod.mk.injEq] at h; obtain ⟨rfl, rfl⟩ := h
   go_wp2
   go_ret2
   exact ⟨.slice none 0 0, rfl, spec_l7Entries.Ents.nil _ _, bL HB.out⟩
  | true =>
   have h := H.out; rw [if_pos rfl] at h; obtain ⟨⟨p1, p2, p3⟩, hp, h⟩ := Option.bind_eq_some_iff.mp h; obtain ⟨i, hi, h⟩ := Option.bind_eq_some_iff.mp h
   dsimp only at h hi
   have HP := A0 hp; have HI := A0 hi; clear H hp hi
   cases i with
   | false =>
    simp only [Bool.false_eq_true, if_false, Option.some.injEq, Prod.mk.injEq] at h; obtain ⟨rfl, rfl⟩ := h
    go_wp2_with (first | (go_at_call 61; (with_reducible refine (impl_places.calls k A0_ c0 l0 p1 p2 _ _ (Kd.C_below HR0.out (bL HB.out)) HC0.out HP.out).mono ?_); rintro e w9 ⟨rfl, hd⟩; have HB2 := A0 (below_step (bL HB.out) hd.below); clear HB hd HP; have HB := HB2; clear HB2) | (go_at_call 25; (with_reducible refine (impl_within.calls _ 1 100 _ _ HI.out).mono ?_); rintro e w10 ⟨rfl, hd⟩; have HB2 := A0 (below_step (bL HB.out) hd.below); clear HB hd HI; have HB := HB2; clear HB2))
    go_ret2
    exact ⟨.slice none 0 0, rfl, spec_l7Entries.Ents.nil _ _, bL HB.out⟩
   | true =>
    rw [if_pos rfl] at h
    by_cases hp3 : 0 ≤ p3 ∧ p3 ≤ 100
    case neg => rw [if_neg hp3] at h; cases h
    rw [if_pos hp3] at h; obtain ⟨m, rfl⟩ : ∃ m : Nat, p3 = (m : Int) := ⟨p3.toNat, by omega⟩; rw [Int.toNat_natCast] at h
    have hm100 : m ≤ 100 := by omega
    have H := A0 h; clear h hp3
    go_wp2_with (first | (go_at_call 61; (with_reducible refine (impl_places.calls k A0_ c0 l0 p1 p2 _ _ (Kd.C_below HR0.out (bL HB.out)) HC0.out HP.out).mono ?_); rintro e w9 ⟨rfl, hd⟩; have HB2 := A0 (below_step (bL HB.out) hd.below); clear HB hd HP; have HB := HB2; clear HB2) | (go_at_call 25; (with_reducible refine (impl_within.calls _ 1 100 _ _ HI.out).mono ?_); rintro e w10 ⟨rfl, hd⟩; have HB2 := A0 (below_step (bL HB.out) hd.below); clear HB hd HI; have HB := HB2; clear HB2) | ((with_reducible refine gate_dst (N := 61) rfl ?_); refine box_event ?hg (N := 61) ?hd (cs := #[.slice A0_ l0.length c0, .int .i64 0, .bool false]) (t := 92) ?hr ?_; (case hd => rfl); (case hg => rfl); (case hr => first | (go_simp; done) | (go_simp; rfl)); intro gr hg w11 hbox hb; have GR := A0 (show w.heap.size ≤ gr by rw [hg]; exact (bL HB.out).size); have HB2 := A0 (below_step (bL HB.out) hb); have BR := A0 hbox; clear HB hg hbox hb; have HB := HB2; clear HB2) | ((with_reducible refine gate_dst (N := 62) rfl ?_); refine Kd.R_lit (Kd.raw 9) w.heap.size 51 ?hg (N := 62) ?hd (xs := ([] : List (List Value))) (inner := []) (ok := fun _ => True) (okp := fun _ => True) ?hr ?hp (fun _ hk => hk) trivial (bL HB.out) (bL HB.out).size (by simp) ?_; (case hd => rfl); (case hg => rfl); (case hr => first | (go_simp; done) | (go_simp; rfl)); (case hp => exact (Reps.none _ _)); intro v62 w12 ho hb hg_ hn_; obtain ⟨A62, c62, e62⟩ := Kd.R_slice ho; subst e62; have S := A0 (show impl_readTable.St w w12 gr A0_ l0.length c0 0 false (.slice A62 0 c62) [] from ⟨blk_grown (bK BR.out) hg_ (by simp), hb, ⟨[], ho, rfl, fun j x h => by simp at h⟩⟩); clear HB BR ho hb hg_ hn_))
    go_loopg [8, 9, 64] m (fun gg v8 v9 v64 w' => ∃ (j : Nat) (E : List S51) (a : Int) (b : Bool) (bf : ByteArray), j ≤ m ∧ m - j ≤ gg ∧ v9 = .string bf ∧ v64 = .int .i64 (j : Nat) ∧ Aside0 (impl_readTable.run k l0 j = some (E, a, b, bf)) ∧ Aside0 (impl_readTable.St w w' gr A0_ l0.length c0 a b v8 E))
    case atStart => exact ⟨0, [], 0, false, ⟨#[]⟩, by omega, by omega, rfl, rfl, ⟨rfl⟩, ⟨(stK S.out)⟩⟩
    case round =>
     clear S; obtain ⟨j, E, a, b, bf, hj, hg, rfl, rfl, HJ, S⟩ := hrel; obtain ⟨Ao, co, eo, hco⟩ := S.out.ents.slice; subst eo
     by_cases hlt : j < m
     ·have hd1 : decide ((j : Int) < (m : Int)) = true := decide_eq_true (by omega)
      have hd2 : decide (j < m) = true := decide_eq_true hlt
      obtain ⟨x, a2, b2, bf2, hbf, hx, hst⟩ : ∃ (x : S51) (a2 : Int) (b2 : Bool) (bf2 : ByteArray), bf2 = (if j % 4 = 0 then ⟨#[]⟩ else bf) ∧ impl_readTable.en k l0 a b bf2 = some (x, a2, b2) ∧ impl_readTable.run k l0 (j + 1) = some (E ++ [x], a2, b2, x.f0) := by
       have h := H.out
       unfold impl_readTable.g at h
       obtain ⟨st, hst, _⟩ := Option.bind_eq_some_iff.mp h; obtain ⟨st2, h2⟩ := impl_readTable.run_pre k l0 (m - (j + 1)) (j + 1) st (by rw [show j + 1 + (m - (j + 1)) = m by omega]; exact hst); have h3 := h2
       unfold impl_readTable.run at h3
       rw [HJ.out, Option.bind_some] at h3; obtain ⟨⟨x, a2, b2⟩, hx, h4⟩ := Option.bind_eq_some_iff.mp h3; refine ⟨x, a2, b2, _, rfl, hx, ?_⟩; rw [h2, ← h4]
      have HX := A0 hx; have HST := A0 hst; have HBF := A0 hbf; clear hx hst hbf
      go_upto_if 69 with (fail)
      go_cut [9] (fun v9 wc => v9 = .string bf2 ∧ Aside0 (impl_readTable.St w wc gr A0_ l0.length c0 a b (.slice Ao E.length co) E))
      case first =>
       by_cases h4 : j % 4 = 0
       ·rw [show ((j : Int) % 4 == 0) = true from beq_iff_eq.mpr (by omega)]
        obtain rfl : bf2 = ⟨#[]⟩ := by rw [HBF.out, if_pos h4]
        go_wp2
        go_meet
        case rel => exact ⟨rfl, ⟨(stK S.out)⟩⟩
       ·rw [show ((j : Int) % 4 == 0) = false from beq_eq_false_iff_ne.mpr (by omega)]
        obtain rfl : bf2 = bf := by rw [HBF.out, if_neg h4]
        go_wp2
        go_meet
        case rel => exact ⟨rfl, ⟨(stK S.out)⟩⟩
      case rest =>
       clear S; obtain ⟨rfl, S⟩ := hcut
       go_wp2_with (first | (go_at_call 62; (with_reducible refine (impl_readTable.entry_at k l0 a b bf2 x a2 b2 A0_ c0 gr _ _ (fun V hV => Kd.C_below HR0.out (hV.below (impl_readTable.St.bel (stK S.out)) GR.out)) HC0.out (⟨Gr.refl gr _, impl_readTable.St.blk (stK S.out)⟩) HX.out).mono ?_); rintro e w17 ⟨v7, rfl, hq, hR⟩; obtain ⟨Aq, cq, eq7, _⟩ := Kd.Q_slice hq; subst eq7; have QH := A0 (Kd.Q_lower hq (impl_readTable.St.bel (stK S.out)).size); have S2 := A0 (impl_readTable.St.read (stK S.out) GR.out hR); clear S hq hR; have S := S2; clear S2) | ((with_reducible refine gate_dst (N := 11) rfl ?_); refine box_event ?hg (N := 11) ?hd (cs := #[.string (⟨#[]⟩ : ByteArray), .int .i64 0, .int .i64 0, .int .i64 0, .int .i64 0, .int .i64 0, .int .i64 0, .slice none 0 0, .bool false]) (t := 51) ?hr ?_; (case hd => rfl); (case hg => rfl); (case hr => first | (go_simp; done) | (go_simp; rfl)); intro g11 hg w18 hbox hb; have GE := A0 (show w.heap.size ≤ g11 by rw [hg]; exact (impl_readTable.St.bel (stK S.out)).size); have NR := A0 (show gr ≠ g11 by rw [hg]; exact Nat.ne_of_lt (blk_lt (impl_readTable.St.blk (stK S.out)))); have NV := A0 (show some g11 ≠ (Value.slice Ao E.length co).ownBlock from fun e => Nat.lt_irrefl g11 (by have h9 := (impl_readTable.St.ents (stK S.out)).lt g11 e.symm; rwa [← hg] at h9)); have QH2 := A0 (Kd.Q_below (show Kd.Q (Kd.int .i64) 3 _ w.heap.size (fun _ => True) (.slice Aq x.f3.f4.length cq) x.f3.f4 from (by with_reducible repeat (first | exact QH.out | apply Kd.Q_drewN | apply Kd.Q_drew))) hb); have S2 := A0 (impl_readTable.St.below (stK S.out) hb); have BK := A0 hbox; clear S QH hg hbox hb; have S := S2; have QH := QH2; clear S2 QH2; obtain ⟨_, _, _, _, _, _, _, _, _⟩ := kc9 BK.out; obtain ⟨_, _, _, _, _, _, _, _, _⟩ := kf9 BK.out))
       have on9 := ((((((((((On.refl g11 w18).set 0 (.string x.f0)).set 1 (.int .i64 x.f1)).set 2 (.int .i64 x.f2)).set 3 (.int .i64 x.f3.f0)).set 4 (.int .i64 x.f3.f1)).set 5 (.int .i64 x.f3.f2)).set 6 (.int .i64 x.f3.f3)).set 7 (.slice Aq x.f3.f4.length cq)).set 8 (.bool x.f3.f5)); have S9 := A0 (impl_readTable.St.far S.out BK.out NR.out NV.out (by decide) on9 GE.out).drew; have B9 := A0 (blk_drew (p9 (x0 := .string x.f0) (x1 := .int .i64 x.f1) (x2 := .int .i64 x.f2) (x3 := .int .i64 x.f3.f0) (x4 := .int .i64 x.f3.f1) (x5 := .int .i64 x.f3.f2) (x6 := .int .i64 x.f3.f3) (x7 := .slice Aq x.f3.f4.length cq) (x8 := .bool x.f3.f5) BK.out)); have Q9 := A0 (Kd.Q_drew (on9.Qt QH.out BK.out (by decide))); refine start_ (n := 8) (S := fun w' => w'.cell? ⟨g11, 0, none⟩ = some (.string x.f0) ∧ w'.cell? ⟨g11, 1, none⟩ = some (.int .i64 x.f1) ∧ w'.cell? ⟨g11, 2, none⟩ = some (.int .i64 x.f2) ∧ w'.cell? ⟨g11, 3, none⟩ = some (.int .i64 x.f3.f0) ∧ w'.cell? ⟨g11, 4, none⟩ = some (.int .i64 x.f3.f1) ∧ w'.cell? ⟨g11, 5, none⟩ = some (.int .i64 x.f3.f2) ∧ w'.cell? ⟨g11, 6, none⟩ = some (.int .i64 x.f3.f3) ∧ w'.cell? ⟨g11, 7, none⟩ = some (.slice Aq x.f3.f4.length cq) ∧ w'.cell? ⟨g11, 8, none⟩ = some (.bool x.f3.f5)) (ds := []) #[false, false, false, false, false, false, false, false] (by kernel_rfl) rfl rfl (c9 B9.out) (fun hHeld => ?_); have B10 := B9; clear S QH BK on9 B9; generalize World.drew _ = w20 at S9 B10 Q9 hHeld ⊢; refine pu_ 0 73 ?_
       refine tk_ 1 74 hHeld ?_
       refine pu_ 4 77 ?_
       refine tk_ 5 78 hHeld ?_
       refine on_ 2 75 (fun K hK => ?_); refine Kd.R_lit_step (Kd.raw 9) _ 51 (by rfl) (N := 75) rfl (xs := [spec_l7Entries.cells x Aq cq]) (inner := [.string x.f0, .int .i64 x.f1, .int .i64 x.f2, .int .i64 x.f3.f0, .int .i64 x.f3.f1, .int .i64 x.f3.f2, .int .i64 x.f3.f3, .slice Aq x.f3.f4.length cq, .bool x.f3.f5]) (ok := fun _ => True) (okp := fun _ => True) ?hr7 (Reps.snoc (Reps.none _ _) (show Kd.M (Kd.raw 9) _ _ _ (spec_l7Entries.cells x Aq cq) [.string x.f0, .int .i64 x.f1, .int .i64 x.f2, .int .i64 x.f3.f0, .int .i64 x.f3.f1, .int .i64 x.f3.f2, .int .i64 x.f3.f3, .slice Aq x.f3.f4.length cq, .bool x.f3.f5] from ⟨rfl, rfl, by simp [Value.oneCell']⟩) rfl) (fun _ hk => hk) trivial (Below.refl _ _) (Nat.le_refl _) (by simp) ?_; (case hr7 => first | (go_simp; done) | (go_simp; rfl)); intro v75 w21 ho hb hg_ hn_; obtain ⟨A75, c75, e75⟩ := Kd.R_slice ho; subst e75; have S := A0 (impl_readTable.St.below S9.out hb); have B11 := A0 (blk_below B10.out hb); have Q11 := A0 (Kd.Q_below Q9.out hb); have HL := A0 (Kd.R_reads' ho).2.2; clear ho hb hg_ hn_ S9 B10 Q9; refine hK.out _ _ (c9 B11.out) (fun hHeld => ?_); clear hK K; refine norm_ (a' := ?_) ?_ ?_; rotate_left
       ·show Act.put _ (some 75) _ = _
        simp only [Act.put, sq_a, sq_b, sq_c, i64_w, i32_w]; rfl
       refine on_ 3 76 (fun K hK => ?_); obtain ⟨cs, e1, e2, e3⟩ := S.out.ents.row; have hE := impl_readTable.run_len k l0 j _ HJ.out; refine Kd.R_append_rows_step (Kd.raw 9) (w0 := w) w.heap.size (by rfl) (.tmp 73) (.tmp 75) 27 51 (.agg #[(.string ⟨#[]⟩), (.int .i64 0), (.int .i64 0), (.int .i64 0), (.int .i64 0), (.int .i64 0), (.int .i64 0), (.slice none 0 0), (.bool false)]) 96 rfl Try.underlying27 info51 rfl (by decide) (by omega) (.slice Ao E.length co) cs [spec_l7Entries.cells x Aq cq] _ _ _ (fun _ => True) (fun _ => False) rfl rfl ?aO ?aR (fun _ _ h => h) (fun _ h => h.elim) ?aF ?aB ?aS ?aL ?_; (case aR => exact HL.out); (case aB => exact S.out.bel); (case aF => exact (fun _ _ => trivial)); (case aO => exact e1); (case aS => exact S.out.bel.size); (case aL => simp only at hE; simp only [List.length_cons, List.length_nil]; omega); intro v76 w22 ho8 hb8 hg8 hat8; have S3 := A0 (show impl_readTable.St w w22 gr A0_ l0.length c0 a2 b2 v76 (E ++ [x]) from ⟨blk_grown S.out.blk hg8 (Kd.R_ne e1 S.out.blk (by decide)), hb8, S.out.ents.grown e1 e2 e3 Q11.out ho8 hg8⟩); have B12 := A0 (blk_grown B11.out hg8 NV.out); clear ho8 hb8 hg8 hat8 e1 e2 e3 hE S B11 Q11 HL; refine hK.out _ _ (c9 B12.out) (fun hHeld => ?_); clear hK K; refine norm_ (a' := ?_) ?_ ?_; rotate_left
       ·show Act.put _ (some 76) _ = _
        simp only [Act.put, sq_a, sq_b, sq_c, i64_w, i32_w]; rfl
       refine pu_ 6 8 ?_
       refine pu_ 7 9 ?_
       refine done_ (by kernel_rfl) ?_; clear hHeld
       have hwj : IntKind.i64.wrap ((j : Int) + 1) = ((j + 1 : Nat) : Int) := by rw [i64_w]; unfold wrap64; omega
       go_wp2
       go_roundg (m - (j + 1))
       case measure => omega
       case rel => exact ⟨j + 1, E ++ [x], a2, b2, x.f0, by omega, by omega, rfl, by first | rfl | (simp; done), HST, ⟨stK S3.out⟩⟩
     ·obtain rfl : j = m := by omega
      have hd1 : decide ((j : Int) < (j : Int)) = false := decide_eq_false (by omega); have hd2 : decide (j < j) = false := decide_eq_false (by omega); have h := H.out
      unfold impl_readTable.g at h
      rw [HJ.out, Option.bind_some] at h
      dsimp only at h
      have hE := impl_readTable.run_len k l0 j _ HJ.out
      simp only at hE
      have HE := A0 hE; clear hE; obtain ⟨_, _, _⟩ := c3 S.out.blk; obtain ⟨_, _, _⟩ := f3 S.out.blk; clear H HJ
      cases b with
      | true =>
       simp only [if_true, Option.some.injEq, Prod.mk.injEq] at h; obtain ⟨rfl, rfl⟩ := h
       go_wp2
       go_ret2
       exact ⟨.slice none 0 0, rfl, spec_l7Entries.Ents.nil _ _, impl_readTable.St.bel (stK S.out)⟩
      | false =>
       rw [if_neg (by decide)] at h; obtain ⟨bg, hgd, h⟩ := Option.bind_eq_some_iff.mp h; have HG := A0 hgd; clear hgd
       cases bg with
       | false =>
        simp only [Bool.false_eq_true, if_false, Option.some.injEq, Prod.mk.injEq] at h; obtain ⟨rfl, rfl⟩ := h
        go_wp2_with (first | (go_at_call 26; (with_reducible refine (impl_GoodEntries.calls k Ao co E _ _ (spec_l7Entries.Ents.reads (impl_readTable.St.ents (stK S.out))).2 hco HG.out).mono ?_); rintro e w30 ⟨rfl, hb⟩; have S2 := A0 (impl_readTable.St.below (stK S.out) hb); clear S hb HG; have S := S2; clear S2))
        go_ret2
        exact ⟨.slice none 0 0, rfl, spec_l7Entries.Ents.nil _ _, impl_readTable.St.bel (stK S.out)⟩
       | true =>
        rw [if_pos rfl] at h; have H := A0 h; clear h
        go_wp2_with (first | (go_at_call 26; (with_reducible refine (impl_GoodEntries.calls k Ao co E _ _ (spec_l7Entries.Ents.reads (impl_readTable.St.ents (stK S.out))).2 hco HG.out).mono ?_); rintro e w30 ⟨rfl, hb⟩; have S2 := A0 (impl_readTable.St.below (stK S.out) hb); clear S hb HG; have S := S2; clear S2))
        go_loopg [12] 20 (fun gg v12 w' => ∃ p : Nat, 1 ≤ p ∧ p ≤ 21 ∧ 21 - p ≤ gg ∧ v12 = .int .i64 (p : Nat) ∧ Aside0 (impl_readTable.tries k l0 E (21 - p) p = some (r1, r2)) ∧ Aside0 (impl_readTable.St w w' gr A0_ l0.length c0 a false (.slice Ao E.length co) E))
        case atStart => exact ⟨1, by omega, by omega, by omega, rfl, ⟨H.out⟩, ⟨(stK S.out)⟩⟩
        case round =>
         clear S; obtain ⟨p, hp1, hp21, hpg, rfl, HT, S⟩ := hrel; have hT := HT.out
         by_cases hlp : p ≤ 20
         ·have hd3 : decide ((p : Int) ≤ 20) = true := decide_eq_true (by omega)
          have hd4 : decide (p ≤ 20) = true := decide_eq_true (by omega); rw [show 21 - p = (21 - (p + 1)) + 1 by omega] at hT
          unfold impl_readTable.tries at hT
          obtain ⟨t, ht, hT⟩ := Option.bind_eq_some_iff.mp hT; obtain ⟨b, hb, hT⟩ := Option.bind_eq_some_iff.mp hT; have HTB := A0 ht; have HQ := A0 hb; clear ht hb
          cases b with
          | true =>
           rw [if_pos rfl] at hT; simp only [Option.some.injEq, Prod.mk.injEq] at hT; obtain ⟨rfl, rfl⟩ := hT
           go_wp2_with (first | (go_at_call 27; (with_reducible refine (impl_table.calls k Ao co E _ t _ (spec_l7Entries.Ents.reads (impl_readTable.St.ents (stK S.out))).2 hco HTB.out).mono ?_); rintro e w31 ⟨v95, rfl, ho, hb⟩; obtain ⟨A95, c95, e95⟩ := Kd.R_slice ho; subst e95; have HL := A0 (Kd.R_reads' ho); have S2 := A0 (impl_readTable.St.below (stK S.out) hb); clear S ho hb HTB; have S := S2; clear S2) | (go_at_call 60; (with_reducible refine (bytes_Equal.calls A95 c95 t A0_ c0 l0 _ _ (cK HL.out.2.2) HL.out.2.1 (Kd.C_below HR0.out (impl_readTable.St.bel (stK S.out))) HC0.out HQ.out).mono ?_); rintro e w32 ⟨rfl, hd⟩; have S2 := A0 (impl_readTable.St.below (stK S.out) hd.below); clear S hd HQ HL; have S := S2; clear S2))
           go_ret2
           exact ⟨.slice Ao E.length co, rfl, impl_readTable.St.ents (stK S.out), impl_readTable.St.bel (stK S.out)⟩
          | false =>
           rw [if_neg (by decide)] at hT; have HT2 := A0 hT; clear hT HT
           have hwp : IntKind.i64.wrap ((p : Int) + 1) = ((p + 1 : Nat) : Int) := by rw [i64_w]; unfold wrap64; omega
           go_wp2_with (first | (go_at_call 27; (with_reducible refine (impl_table.calls k Ao co E _ t _ (spec_l7Entries.Ents.reads (impl_readTable.St.ents (stK S.out))).2 hco HTB.out).mono ?_); rintro e w31 ⟨v95, rfl, ho, hb⟩; obtain ⟨A95, c95, e95⟩ := Kd.R_slice ho; subst e95; have HL := A0 (Kd.R_reads' ho); have S2 := A0 (impl_readTable.St.below (stK S.out) hb); clear S ho hb HTB; have S := S2; clear S2) | (go_at_call 60; (with_reducible refine (bytes_Equal.calls A95 c95 t A0_ c0 l0 _ _ (cK HL.out.2.2) HL.out.2.1 (Kd.C_below HR0.out (impl_readTable.St.bel (stK S.out))) HC0.out HQ.out).mono ?_); rintro e w32 ⟨rfl, hd⟩; have S2 := A0 (impl_readTable.St.below (stK S.out) hd.below); clear S hd HQ HL; have S := S2; clear S2))
           go_roundg (21 - (p + 1))
           case measure => omega
           case rel => exact ⟨p + 1, by omega, by omega, by omega, by first | rfl | (simp; done), HT2, ⟨(stK S.out)⟩⟩
         ·obtain rfl : p = 21 := by omega
          simp only [Nat.sub_self, impl_readTable.tries, Option.some.injEq, Prod.mk.injEq] at hT; obtain ⟨rfl, rfl⟩ := hT
          go_wp2
          go_ret2
          exact ⟨.slice none 0 0, rfl, spec_l7Entries.Ents.nil _ _, impl_readTable.St.bel (stK S.out)⟩
end Go.Proofs.Ytllmlnagihlokaa.PFnExactBoundsOf
