-- Written by a program of this session.
import Derived.Test.YtllmlnagihlokaaPFnExactBoundsOfx0
import Derived.Test.YtllmlnagihlokaaPFnExactBoundsOfx1
import Derived.Test.YtllmlnagihlokaaPFnExactBoundsOfx3
import Derived.Test.YtllmlnagihlokaaPFnExactBoundsOfx6
import Derived.Test.YtllmlnagihlokaaPFnExactBoundsOfx7
import Derived.Test.YtllmlnagihlokaaPFnExactBoundsOfx9
namespace Go.Proofs.Ytllmlnagihlokaa.PFnExactBoundsOf
open Go.RowKit Go.Proofs.YtllmlnagihlokaaW.PrintWords Go.Proofs.YtllmlnagihlokaaW.PrintLast Go.Proofs.YtllmlnagihlokaaW.PrintMore
attribute [local go_sem] max2_int min2_int max_two min_two max_three min_three max_four min_four hw_string_geq hw_string_gtr hw_string_leq
set_option linter.unusedVariables false
set_option linter.unusedSimpArgs false
abbrev bq10_0 : Array Bool := #[false, false, false, false, false, false, false, false, false, false, false, false, false, false]
abbrev bq10_1 : Array Bool := #[true, false, false, false, false, false, false, false, false, false, false, false, false, false]
abbrev bq10_2 : Array Bool := #[true, true, false, false, false, false, false, false, false, false, false, false, false, false]
abbrev bq10_3 : Array Bool := #[true, true, true, false, false, false, false, false, false, false, false, false, false, false]
abbrev bq10_4 : Array Bool := #[true, true, true, true, false, false, false, false, false, false, false, false, false, false]
abbrev bq10_5 : Array Bool := #[true, true, true, true, false, false, true, false, false, false, false, false, false, false]
abbrev bq10_6 : Array Bool := #[true, true, true, true, false, false, true, true, false, false, false, false, false, false]
abbrev bq10_7 : Array Bool := #[true, true, true, true, false, false, true, true, true, false, false, false, false, false]
abbrev bq10_8 : Array Bool := #[true, true, true, true, false, false, true, true, true, true, false, false, false, false]
abbrev bq10_9 : Array Bool := #[true, true, true, true, false, false, true, true, true, true, true, false, false, false]
abbrev bq10_10 : Array Bool := #[true, true, true, true, false, false, true, true, true, true, true, true, false, false]
abbrev bq10_12 : Array Bool := #[true, true, true, true, true, true, true, true, true, true, true, true, false, false]
abbrev bq10_13 : Array Bool := #[true, true, true, true, true, true, true, true, true, true, true, true, true, false]
abbrev bq10_14 : Array Bool := #[true, true, true, true, true, true, true, true, true, true, true, true, true, true]
abbrev bq10_15 : Array Bool := #[true, true, true, true, true, false, false, false, false, false, false, false, false, false]
abbrev bq10_16 : Array Bool := #[true, true, true, true, true, true, false, false, false, false, false, false, false, false]
abbrev bq10_17 : Array Bool := #[true, true, true, true, true, true, true, false, false, false, false, false, false, false]
abbrev bq10_18 : Array Bool := #[true, true, true, true, true, true, true, true, false, false, false, false, false, false]
abbrev bq10_19 : Array Bool := #[true, true, true, true, true, true, true, true, true, false, false, false, false, false]
abbrev bq10_20 : Array Bool := #[true, true, true, true, true, true, true, true, true, true, false, false, false, false]
abbrev bq10_21 : Array Bool := #[true, true, true, true, true, true, true, true, true, true, true, false, false, false]
/-! ### spec_l7Read: function 31, by hand -/
def spec_l7Read.ps : List Int := [10, 1, 2, 3, 4, 5, 6, 7, 8, 9, 11, 12, 13, 14, 15, 16, 17, 18, 19, 20]
def spec_l7Read.tries (k : Nat) (l : List Int) (E : List S51) : Nat → Nat → Option (List S51 × Int)
 | 0, _ => some ([], 4)
 | d + 1, j => (spec_l7Build.f k E (rd spec_l7Read.ps (j : Int))).bind fun t => if (strOfNums t).toList = (strOfNums l).toList then some (E, 0) else spec_l7Read.tries k l E d (j + 1)
def spec_l7Read.g (k : Nat) (l : List Int) (many : Int) : Option (List S51 × Int) :=
 (spec_l7Entries.f k (l.take (l.length - 20)) many).bind fun p => if p.2 = true then (spec_GoodEntries.f k p.1).bind fun g => if g = true then spec_l7Read.tries k l p.1 20 0 else some ([], 4) else some ([], 4)
def spec_l7Read.f (k : Nat) (l : List Int) : Option (List S51 × Int) :=
 if l.length < 20 ∨ 8000 < l.length then some ([], 1) else
 if (strOfNums (l.drop (l.length - 4))).toList = ([84, 66, 76, 49] : List UInt8) then
  (spec_l1Crc.f k (l.take (l.length - 8))).bind fun cr => (spec_l1Number.f k ((l.take (l.length - 4)).drop (l.length - 8))).bind fun nu => if wrap64 cr = nu then
   (spec_l1Number.f k ((l.take (l.length - 8)).drop (l.length - 12))).bind fun many => (spec_l1In.f many 1 100).bind fun i => if i = true then spec_l7Read.g k l many else some ([], 4)
  else some ([], 3)
 else some ([], 2)
theorem spec_l7Read.low {W : World} {b b' : Nat} {v : Value} {E : List S51} (h : spec_l7Entries.Ents W b v E) (hb : b' ≤ b) : spec_l7Entries.Ents W b' v E := by
 obtain ⟨cs, h1, h2, h3⟩ := h
 refine ⟨cs, Kd.R_lower h1 hb, h2, fun j x hx => ?_⟩
 obtain ⟨A, c, h4, h5⟩ := h3 j x hx
 exact ⟨A, c, h4, Kd.Q_lower h5 hb⟩
structure spec_l7Read.Se (w W : World) (v : Value) (E : List S51) : Prop where
 bel : Below w.heap.size w W
 ents : spec_l7Entries.Ents W w.heap.size v E
section
variable {w W V : World} {v : Value} {E : List S51}
theorem spec_l7Read.Se.below (h : spec_l7Read.Se w W v E) (hb : Below W.heap.size W V) : spec_l7Read.Se w V v E := ⟨below_step h.bel hb, h.ents.below hb⟩
end
theorem srK {w W V : World} {v : Value} {E : List S51} (h : spec_l7Read.Se w W v E) (hm : MvA W V := by (with_reducible repeat (first | exact MvA.refl _ | apply MvA.drewN | apply MvA.drew | apply MvA.alloc))) : spec_l7Read.Se w V v E := h.below hm.below
set_option maxHeartbeats 8000000 in
set_option maxRecDepth 100000 in
theorem spec_l7Read.calls (k : Nat) (A0_ : Option Addr) (c0 : Nat) (l0 : List Int) (r1 : List S51) (r2 : Int) (w : World) (hr0 : Kd.C (Kd.int .u8) w A0_ l0.length l0) (hc0 : l0.length ≤ c0) (h : spec_l7Read.f k l0 = some (r1, r2)) :
  Calls Try.prog 31 #[.slice A0_ l0.length c0] w fun e w' => ∃ v, e = .returned (.tuple #[v, .int .i64 r2]) ∧ spec_l7Entries.Ents w' w.heap.size v r1 ∧ Below w.heap.size w w' := by
 have hu3 := Try.underlying51
 unfold spec_l7Read.f at h
 have HR0 := A0 hr0
 have HC0 := A0 hc0
 have HB := A0 (Below.refl w.heap.size w)
 go_enter Try.func31, Try.ntmps31
 by_cases ha : l0.length < 20
 ·rw [if_pos (.inl ha)] at h
  simp only [Option.some.injEq, Prod.mk.injEq] at h; obtain ⟨rfl, rfl⟩ := h
  have h1 : decide ((l0.length : Int) < 20) = true := decide_eq_true (by omega); clear hr0 hc0
  go_wp2
  go_ret2
  exact ⟨.slice none 0 0, rfl, spec_l7Entries.Ents.nil _ _, bL HB.out⟩
 by_cases hb : 8000 < l0.length
 ·rw [if_pos (.inr hb)] at h
  simp only [Option.some.injEq, Prod.mk.injEq] at h; obtain ⟨rfl, rfl⟩ := h
  have h1 : decide ((l0.length : Int) < 20) = false := decide_eq_false (by omega); have h2 : decide (8000 < (l0.length : Int)) = true := decide_eq_true (by omega); clear hr0 hc0
  go_wp2
  go_ret2
  exact ⟨.slice none 0 0, rfl, spec_l7Entries.Ents.nil _ _, bL HB.out⟩
 rw [if_neg (by omega)] at h
 have h1 : decide ((l0.length : Int) < 20) = false := decide_eq_false (by omega)
 have h2 : decide (8000 < (l0.length : Int)) = false := decide_eq_false (by omega)
 obtain ⟨n4, hn4⟩ : ∃ n4 : Nat, n4 = l0.length - 4 := ⟨_, rfl⟩
 obtain ⟨n8, hn8⟩ : ∃ n8 : Nat, n8 = l0.length - 8 := ⟨_, rfl⟩
 obtain ⟨n12, hn12⟩ : ∃ n12 : Nat, n12 = l0.length - 12 := ⟨_, rfl⟩
 obtain ⟨n20, hn20⟩ : ∃ n20 : Nat, n20 = l0.length - 20 := ⟨_, rfl⟩
 have hw4 : wrap64 ((l0.length : Int) - 4) = (n4 : Int) := by unfold wrap64; omega
 have hw8 : wrap64 ((l0.length : Int) - 8) = (n8 : Int) := by unfold wrap64; omega
 have hl4 : n4 ≤ l0.length := by omega
 have hl48 : n8 ≤ n4 := by omega
 have hl8 : n12 ≤ n8 := by omega
 have hl4c : n4 ≤ c0 := by omega
 have hl8c : n8 ≤ c0 := by omega
 have hne4 : ¬ c0 = n4 := by omega
 have hne8 : ¬ c0 = n8 := by omega
 have hne12 : ¬ c0 = n12 := by omega
 have HCV := A0 (show ∀ V, Below w.heap.size w V → (convert 24 9 (.slice (Option.map (fun x => x.add n4) A0_) (l0.length - n4) (c0 - n4))).run Try.prog V = .ok (.string (strOfNums (l0.drop n4))) V from fun V hV => by
  have h3 := Kd.C_drop (c := c0) (Kd.C_below hr0 hV) hl4 hc0; simp only [show (Kd.int .u8).sz = 1 from rfl, Nat.mul_one, if_neg hne4] at h3; have h4 := Kd.C_string (P := Try.prog) (c := c0 - n4) Try.underlying24 Try.underlying5 Try.underlying9 h3
  rwa [List.length_drop] at h4)
 have HC8 := A0 (show ∀ V, Below w.heap.size w V → Kd.C (Kd.int .u8) V (Option.map (fun x => x.add n8) A0_) ((l0.take n4).drop n8).length ((l0.take n4).drop n8) from fun V hV => by
  have h3 := Kd.C_mid (c := c0) (lo := n8) (hi := n4) (Kd.C_below hr0 hV) hl48 hl4 hc0
  simpa only [show (Kd.int .u8).sz = 1 from rfl, Nat.mul_one, if_neg hne8] using h3)
 have HC12 := A0 (show ∀ V, Below w.heap.size w V → Kd.C (Kd.int .u8) V (Option.map (fun x => x.add n12) A0_) ((l0.take n8).drop n12).length ((l0.take n8).drop n12) from fun V hV => by
  have h3 := Kd.C_mid (c := c0) (lo := n12) (hi := n8) (Kd.C_below hr0 hV) hl8 (by omega) hc0
  simpa only [show (Kd.int .u8).sz = 1 from rfl, Nat.mul_one, if_neg hne12] using h3)
 rw [← hn4, ← hn8, ← hn12] at h
 have H := A0 h
 have e8 : (l0.take n8).length = n8 := by rw [List.length_take]; omega
 have e20 : (l0.take n20).length = n20 := by rw [List.length_take]; omega
 have e48 : ((l0.take n4).drop n8).length = n4 - n8 := by rw [List.length_drop, List.length_take]; omega
 have e812 : ((l0.take n8).drop n12).length = n8 - n12 := by rw [List.length_drop, List.length_take]; omega
 have HN := A0 (show 20 ≤ l0.length ∧ l0.length ≤ 8000 ∧ n4 = l0.length - 4 ∧ n8 = l0.length - 8 ∧ n12 = l0.length - 12 ∧ n20 = l0.length - 20 from by omega)
 clear h hr0 ha hb hn4 hn8 hn12 hn20
 have hcv := HCV.out w (Below.refl _ _)
 go_upto_if 23 with (fail)
 by_cases hm : (strOfNums (l0.drop n4)).toList = ([84, 66, 76, 49] : List UInt8)
 case neg =>
  have h := H.out; rw [if_neg hm] at h
  simp only [Option.some.injEq, Prod.mk.injEq] at h; obtain ⟨rfl, rfl⟩ := h
  have hmb : ((strOfNums (l0.drop n4)).toList == ([84, 66, 76, 49] : List UInt8)) = false := beq_eq_false_iff_ne.mpr hm; rw [hmb]
  go_wp2
  go_ret2
  exact ⟨.slice none 0 0, rfl, spec_l7Entries.Ents.nil _ _, bL HB.out⟩
 have h := H.out
 rw [if_pos hm] at h
 have hmb : ((strOfNums (l0.drop n4)).toList == ([84, 66, 76, 49] : List UInt8)) = true := beq_iff_eq.mpr hm
 rw [hmb]
 clear hm hmb H hcv HCV
 obtain ⟨cr, hcr, h⟩ := Option.bind_eq_some_iff.mp h
 obtain ⟨nu, hnu, h⟩ := Option.bind_eq_some_iff.mp h
 have HCR := A0 hcr
 have HNU := A0 hnu
 have H := A0 h
 clear hcr hnu h
 go_wp2
 have HB1 := A0 (below_drew1 (bL HB.out))
 refine start_ (n := 14) (S := fun _ => True) (ds := []) bq10_0 (by kernel_rfl) rfl rfl trivial (fun hHeld => ?_)
 clear HB
 generalize World.drew _ = w5 at HB1 hHeld ⊢
 refine pure_ (i := 0) (N := some 24) (v := ?_) (a' := ?_) bq10_1 rfl rfl (by kernel_rfl) (fun _ _ _ h => h) (Or.inl ⟨by rfl, ?_⟩) ?_ ?_
 rotate_left
 ·intro w'; go_simp; with_reducible rfl
 rotate_left
 ·simp only [Act.put, sq_a, sq_b, sq_c, i64_w, i32_w]; rfl
 refine pure_ (i := 1) (N := some 25) (v := ?_) (a' := ?_) bq10_2 rfl rfl (by kernel_rfl) (fun _ _ _ h => h) (Or.inl ⟨by rfl, ?_⟩) ?_ ?_
 rotate_left
 ·intro w'; go_simp; with_reducible rfl
 rotate_left
 ·simp only [Act.put, sq_a, sq_b, sq_c, i64_w, i32_w]; rfl
 refine pure_ (i := 2) (N := some 26) (v := ?_) (a' := ?_) bq10_3 rfl rfl (by kernel_rfl) (fun _ _ _ h => h) (Or.inl ⟨by rfl, ?_⟩) ?_ ?_
 rotate_left
 ·intro w'; go_simp; with_reducible rfl
 rotate_left
 ·simp only [Act.put, sq_a, sq_b, sq_c, i64_w, i32_w]; rfl
 refine pure_ (i := 3) (N := some 27) (v := ?_) (a' := ?_) bq10_4 rfl rfl (by kernel_rfl) (fun _ _ _ h => h) (Or.inl ⟨by rfl, ?_⟩) ?_ ?_
 rotate_left
 ·intro w'; go_simp; with_reducible rfl
 rotate_left
 ·simp only [Act.put, sq_a, sq_b, sq_c, i64_w, i32_w]; rfl
 refine pure_ (i := 6) (N := some 30) (v := ?_) (a' := ?_) bq10_5 rfl rfl (by kernel_rfl) (fun _ _ _ h => h) (Or.inl ⟨by rfl, ?_⟩) ?_ ?_
 rotate_left
 ·intro w'; go_simp; with_reducible rfl
 rotate_left
 ·simp only [Act.put, sq_a, sq_b, sq_c, i64_w, i32_w]; rfl
 refine pure_ (i := 7) (N := some 31) (v := ?_) (a' := ?_) bq10_6 rfl rfl (by kernel_rfl) (fun _ _ _ h => h) (Or.inl ⟨by rfl, ?_⟩) ?_ ?_
 rotate_left
 ·intro w'; go_simp; with_reducible rfl
 rotate_left
 ·simp only [Act.put, sq_a, sq_b, sq_c, i64_w, i32_w]; rfl
 refine pure_ (i := 8) (N := some 32) (v := ?_) (a' := ?_) bq10_7 rfl rfl (by kernel_rfl) (fun _ _ _ h => h) (Or.inl ⟨by rfl, ?_⟩) ?_ ?_
 rotate_left
 ·intro w'; go_simp; with_reducible rfl
 rotate_left
 ·simp only [Act.put, sq_a, sq_b, sq_c, i64_w, i32_w]; rfl
 refine pure_ (i := 9) (N := some 33) (v := ?_) (a' := ?_) bq10_8 rfl rfl (by kernel_rfl) (fun _ _ _ h => h) (Or.inl ⟨by rfl, ?_⟩) ?_ ?_
 rotate_left
 ·intro w'; go_simp; with_reducible rfl
 rotate_left
 ·simp only [Act.put, sq_a, sq_b, sq_c, i64_w, i32_w]; rfl
 refine pure_ (i := 10) (N := some 34) (v := ?_) (a' := ?_) bq10_9 rfl rfl (by kernel_rfl) (fun _ _ _ h => h) (Or.inl ⟨by rfl, ?_⟩) ?_ ?_
 rotate_left
 ·intro w'; go_simp; with_reducible rfl
 rotate_left
 ·simp only [Act.put, sq_a, sq_b, sq_c, i64_w, i32_w]; rfl
 refine pure_ (i := 11) (N := some 35) (v := ?_) (a' := ?_) bq10_10 rfl rfl (by kernel_rfl) (fun _ _ _ h => h) (Or.inl ⟨by rfl, ?_⟩) ?_ ?_
 rotate_left
 ·intro w'; go_simp; with_reducible rfl
 rotate_left
 ·simp only [Act.put, sq_a, sq_b, sq_c, i64_w, i32_w]; rfl
 refine on_ 4 28 (fun K hK => ?_)
 refine goes_ Try.func41 (by kernel_rfl) rfl #[.slice A0_ (l0.take n8).length c0] (by rfl) rfl rfl (by (try simp only [List.map_toArray, List.map_cons, List.map_nil, e8]); first | done | rfl) ?_
 with_reducible refine (spec_l1Crc.calls k A0_ c0 (l0.take n8) cr _ (Kd.C_take (Kd.C_below HR0.out HB1.out) (by have := HN.out; omega)) (by rw [e8]; exact hl8c) HCR.out).mono ?_
 rintro e w6 ⟨rfl, hd⟩
 refine ⟨_, rfl, ?_⟩
 have HB := A0 (below_step HB1.out hd.below)
 clear hd HB1
 refine hK.out _ _ trivial (fun hHeld => ?_)
 clear hK K
 refine norm_ (a' := ?_) ?_ ?_
 rotate_left
 ·show Act.put _ (some 28) _ = _
  simp only [Act.put, sq_a, sq_b, sq_c, i64_w, i32_w]; rfl
 refine pure_ (i := 5) (N := some 29) (v := ?_) (a' := ?_) bq10_12 rfl rfl (by kernel_rfl) (fun _ _ _ h => h) (Or.inl ⟨by rfl, ?_⟩) ?_ ?_
 rotate_left
 ·intro w'; go_simp; with_reducible rfl
 rotate_left
 ·simp only [Act.put, sq_a, sq_b, sq_c, i64_w, i32_w]; rfl
 refine on_ 12 36 (fun K hK => ?_)
 refine goes_ Try.func58 (by kernel_rfl) rfl #[.slice (Option.map (fun x => x.add n8) A0_) ((l0.take n4).drop n8).length (c0 - n8)] (by rfl) rfl rfl (by (try simp only [List.map_toArray, List.map_cons, List.map_nil, e48]); first | done | rfl) ?_
 with_reducible refine (spec_l1Number.calls k _ _ ((l0.take n4).drop n8) nu _ (HC8.out _ HB.out) (by rw [e48]; omega) HNU.out).mono ?_
 rintro e w7 ⟨rfl, hd⟩
 refine ⟨_, rfl, ?_⟩
 have HB1 := A0 (below_step HB.out hd.below)
 clear hd HB
 refine hK.out _ _ trivial (fun hHeld => ?_)
 clear hK K
 refine norm_ (a' := ?_) ?_ ?_
 rotate_left
 ·show Act.put _ (some 36) _ = _
  simp only [Act.put, sq_a, sq_b, sq_c, i64_w, i32_w]; rfl
 refine pure_ (i := 13) (N := some 37) (v := ?_) (a' := ?_) bq10_14 rfl rfl (by kernel_rfl) (fun _ _ _ h => h) (Or.inl ⟨by rfl, ?_⟩) ?_ ?_
 rotate_left
 ·intro w'; go_simp; with_reducible rfl
 rotate_left
 ·simp only [Act.put, sq_a, sq_b, sq_c, i64_w, i32_w]; rfl
 refine done_ (by kernel_rfl) ?_
 clear hHeld
 have HB := HB1
 clear HB1
 by_cases hcn : wrap64 cr = nu
 case neg =>
  have h := H.out; rw [if_neg hcn] at h
  simp only [Option.some.injEq, Prod.mk.injEq] at h; obtain ⟨rfl, rfl⟩ := h
  have hq : (wrap64 cr == nu) = false := beq_eq_false_iff_ne.mpr hcn; have hq2 : (wrap64 cr != nu) = true := bne_iff_ne.mpr hcn
  go_wp2
  go_ret2
  exact ⟨.slice none 0 0, rfl, spec_l7Entries.Ents.nil _ _, bL HB.out⟩
 have h := H.out
 rw [if_pos hcn] at h
 have hq : (wrap64 cr == nu) = true := beq_iff_eq.mpr hcn
 have hq2 : (wrap64 cr != nu) = false := bne_eq_false_iff_eq.mpr hcn
 obtain ⟨many, hma, h⟩ := Option.bind_eq_some_iff.mp h
 obtain ⟨i, hi, h⟩ := Option.bind_eq_some_iff.mp h
 have HMA := A0 hma
 have HI := A0 hi
 have hw8b : wrap64 ((l0.length : Int) - 8) = (n8 : Int) := hw8
 have hw12 : wrap64 ((l0.length : Int) - 12) = (n12 : Int) := by have := HN.out; unfold wrap64; omega
 clear H hma hi hcn
 cases i with
 | false =>
  simp only [Bool.false_eq_true, if_false, Option.some.injEq, Prod.mk.injEq] at h; obtain ⟨rfl, rfl⟩ := h
  go_wp2_with (first | (go_at_call 58; rw [← e812]; (with_reducible refine (spec_l1Number.calls k _ _ ((l0.take n8).drop n12) many _ (HC12.out _ (bL HB.out)) (by rw [e812]; omega) HMA.out).mono ?_); rintro e w9 ⟨rfl, hd⟩; have HB2 := A0 (below_step (bL HB.out) hd.below); clear HB hd HMA; have HB := HB2; clear HB2) | (go_at_call 21; (with_reducible refine (spec_l1In.calls _ 1 100 _ _ HI.out).mono ?_); rintro e w10 ⟨rfl, hd⟩; have HB2 := A0 (below_step (bL HB.out) hd.below); clear HB hd HI; have HB := HB2; clear HB2))
  go_ret2
  exact ⟨.slice none 0 0, rfl, spec_l7Entries.Ents.nil _ _, bL HB.out⟩
 | true =>
  rw [if_pos rfl] at h
  unfold spec_l7Read.g at h
  rw [show l0.length - 20 = n20 by have := HN.out; omega] at h; obtain ⟨⟨E, ok⟩, hen, h⟩ := Option.bind_eq_some_iff.mp h
  dsimp only at h
  have HEN := A0 hen
  have hw20 : wrap64 ((l0.length : Int) - 20) = (n20 : Int) := by have := HN.out; unfold wrap64; omega
  have hl20 : n20 ≤ c0 := by have := HN.out; omega
  have HC20 := A0 (show ∀ V, Below w.heap.size w V → Kd.C (Kd.int .u8) V A0_ (l0.take n20).length (l0.take n20) from fun V hV => Kd.C_take (Kd.C_below HR0.out hV) (by have := HN.out; omega)); clear hen
  cases ok with
  | false =>
   simp only [Bool.false_eq_true, if_false, Option.some.injEq, Prod.mk.injEq] at h; obtain ⟨rfl, rfl⟩ := h
   go_wp2_with (first | (go_at_call 58; rw [← e812]; (with_reducible refine (spec_l1Number.calls k _ _ ((l0.take n8).drop n12) many _ (HC12.out _ (bL HB.out)) (by rw [e812]; omega) HMA.out).mono ?_); rintro e w9 ⟨rfl, hd⟩; have HB2 := A0 (below_step (bL HB.out) hd.below); clear HB hd HMA; have HB := HB2; clear HB2) | (go_at_call 21; (with_reducible refine (spec_l1In.calls _ 1 100 _ _ HI.out).mono ?_); rintro e w10 ⟨rfl, hd⟩; have HB2 := A0 (below_step (bL HB.out) hd.below); clear HB hd HI; have HB := HB2; clear HB2) | (go_at_call 59; rw [← e20]; (with_reducible refine (spec_l7Entries.calls k A0_ c0 (l0.take n20) many E _ _ (HC20.out _ (bL HB.out)) (by rw [e20]; exact hl20) HEN.out).mono ?_); rintro e w11 ⟨v54, rfl, ho, hb⟩; have S := A0 (show spec_l7Read.Se w w11 v54 E from ⟨below_step (bL HB.out) hb, spec_l7Read.low ho (bL HB.out).size⟩); obtain ⟨Ao, co, eo, hco⟩ := S.out.ents.slice; subst eo; clear HB HEN ho hb))
   go_ret2
   exact ⟨.slice none 0 0, rfl, spec_l7Entries.Ents.nil _ _, spec_l7Read.Se.bel (srK S.out)⟩
  | true =>
   rw [if_pos rfl] at h; obtain ⟨g, hg, h⟩ := Option.bind_eq_some_iff.mp h; have HG := A0 hg; clear hg
   cases g with
   | false =>
    simp only [Bool.false_eq_true, if_false, Option.some.injEq, Prod.mk.injEq] at h; obtain ⟨rfl, rfl⟩ := h
    go_wp2_with (first | (go_at_call 58; rw [← e812]; (with_reducible refine (spec_l1Number.calls k _ _ ((l0.take n8).drop n12) many _ (HC12.out _ (bL HB.out)) (by rw [e812]; omega) HMA.out).mono ?_); rintro e w9 ⟨rfl, hd⟩; have HB2 := A0 (below_step (bL HB.out) hd.below); clear HB hd HMA; have HB := HB2; clear HB2) | (go_at_call 21; (with_reducible refine (spec_l1In.calls _ 1 100 _ _ HI.out).mono ?_); rintro e w10 ⟨rfl, hd⟩; have HB2 := A0 (below_step (bL HB.out) hd.below); clear HB hd HI; have HB := HB2; clear HB2) | (go_at_call 59; rw [← e20]; (with_reducible refine (spec_l7Entries.calls k A0_ c0 (l0.take n20) many E _ _ (HC20.out _ (bL HB.out)) (by rw [e20]; exact hl20) HEN.out).mono ?_); rintro e w11 ⟨v54, rfl, ho, hb⟩; have S := A0 (show spec_l7Read.Se w w11 v54 E from ⟨below_step (bL HB.out) hb, spec_l7Read.low ho (bL HB.out).size⟩); obtain ⟨Ao, co, eo, hco⟩ := S.out.ents.slice; subst eo; clear HB HEN ho hb) | (go_at_call 22; (with_reducible refine (spec_GoodEntries.calls k Ao co E _ _ (spec_l7Entries.Ents.reads (spec_l7Read.Se.ents (srK S.out))).2 hco HG.out).mono ?_); rintro e w30 ⟨rfl, hb⟩; have S2 := A0 (spec_l7Read.Se.below (srK S.out) hb); clear S hb HG; have S := S2; clear S2))
    go_ret2
    exact ⟨.slice none 0 0, rfl, spec_l7Entries.Ents.nil _ _, spec_l7Read.Se.bel (srK S.out)⟩
   | true =>
    rw [if_pos rfl] at h; have H := A0 h; clear h
    go_wp2_with (first | (go_at_call 58; rw [← e812]; (with_reducible refine (spec_l1Number.calls k _ _ ((l0.take n8).drop n12) many _ (HC12.out _ (bL HB.out)) (by rw [e812]; omega) HMA.out).mono ?_); rintro e w9 ⟨rfl, hd⟩; have HB2 := A0 (below_step (bL HB.out) hd.below); clear HB hd HMA; have HB := HB2; clear HB2) | (go_at_call 21; (with_reducible refine (spec_l1In.calls _ 1 100 _ _ HI.out).mono ?_); rintro e w10 ⟨rfl, hd⟩; have HB2 := A0 (below_step (bL HB.out) hd.below); clear HB hd HI; have HB := HB2; clear HB2) | (go_at_call 59; rw [← e20]; (with_reducible refine (spec_l7Entries.calls k A0_ c0 (l0.take n20) many E _ _ (HC20.out _ (bL HB.out)) (by rw [e20]; exact hl20) HEN.out).mono ?_); rintro e w11 ⟨v54, rfl, ho, hb⟩; have S := A0 (show spec_l7Read.Se w w11 v54 E from ⟨below_step (bL HB.out) hb, spec_l7Read.low ho (bL HB.out).size⟩); obtain ⟨Ao, co, eo, hco⟩ := S.out.ents.slice; subst eo; clear HB HEN ho hb) | (go_at_call 22; (with_reducible refine (spec_GoodEntries.calls k Ao co E _ _ (spec_l7Entries.Ents.reads (spec_l7Read.Se.ents (srK S.out))).2 hco HG.out).mono ?_); rintro e w30 ⟨rfl, hb⟩; have S2 := A0 (spec_l7Read.Se.below (srK S.out) hb); clear S hb HG; have S := S2; clear S2) | ((with_reducible refine gate_dst (N := 64) rfl ?_); refine Kd.R_lit (Kd.int .i64) _ 3 ?hg (N := 64) ?hd (xs := ([10, 1, 2, 3, 4, 5, 6, 7, 8, 9, 11, 12, 13, 14, 15, 16, 17, 18, 19, 20] : List Int)) (inner := [.int .i64 10, .int .i64 1, .int .i64 2, .int .i64 3, .int .i64 4, .int .i64 5, .int .i64 6, .int .i64 7, .int .i64 8, .int .i64 9, .int .i64 11, .int .i64 12, .int .i64 13, .int .i64 14, .int .i64 15, .int .i64 16, .int .i64 17, .int .i64 18, .int .i64 19, .int .i64 20]) (ok := fun _ => True) (okp := fun _ => True) ?hr ?hp (fun _ hk => hk) trivial (Below.refl _ _) (Nat.le_refl _) (by simp) ?_; (case hd => rfl); (case hg => rfl); (case hr => first | (go_simp; done) | (go_simp; rfl)); (case hp => exact Kd.reps_scalar spec_l7Read.ps); intro v64 w64 ho hb hg_ hn_; obtain ⟨A64, c64, e64⟩ := Kd.R_slice ho; subst e64; have L := A0 (show Kd.C (Kd.int .i64) w64 A64 20 spec_l7Read.ps from (Kd.R_reads' ho).2.2); have S2 := A0 (spec_l7Read.Se.below (srK S.out) hb); clear S ho hb hg_ hn_; have S := S2; clear S2))
    go_loopg [66] 20 (fun gg v66 w' => ∃ j : Nat, j ≤ 20 ∧ 20 - j ≤ gg ∧ v66 = .int .i64 (j : Nat) ∧ Aside0 (spec_l7Read.tries k l0 E (20 - j) j = some (r1, r2)) ∧ Aside0 (spec_l7Read.Se w w' (.slice Ao E.length co) E) ∧ Aside0 (Kd.C (Kd.int .i64) w' A64 20 spec_l7Read.ps))
    case atStart => exact ⟨0, by omega, by omega, rfl, ⟨H.out⟩, ⟨(srK S.out)⟩, ⟨cK L.out⟩⟩
    case round =>
     clear S L; obtain ⟨j, hj, hjg, rfl, HT, S, L⟩ := hrel; have hT := HT.out
     by_cases hlt : j < 20
     ·have hd3 : decide ((j : Int) < 20) = true := decide_eq_true (by omega)
      have hd4 : decide (j < 20) = true := decide_eq_true hlt; rw [show 20 - j = (20 - (j + 1)) + 1 by omega] at hT
      unfold spec_l7Read.tries at hT
      obtain ⟨t, ht, hT⟩ := Option.bind_eq_some_iff.mp hT; have HTB := A0 ht; have HT2 := A0 hT; clear ht hT HT; obtain ⟨ad, eA, hb0⟩ := Kd.at_int L.out (j : Int) (by omega) (by simp [spec_l7Read.ps]; omega); subst eA; have hb1 := hb0; rw [Int.toNat_natCast] at hb1
      go_wp2
      have S9 := A0 (spec_l7Read.Se.below S.out (below_drew1 (Below.refl _ _))); have L9 := A0 (Kd.C_drew (cK L.out)); have HCV := A0 (show ∀ V, Below w.heap.size w V → (convert 24 9 (.slice A0_ l0.length c0)).run Try.prog V = .ok (.string (strOfNums l0)) V from fun V hV => Kd.C_string (P := Try.prog) (c := c0) Try.underlying24 Try.underlying5 Try.underlying9 (Kd.C_below HR0.out hV)); refine start_ (n := 7) (S := fun V => (convert 24 9 (.slice A0_ l0.length c0)).run Try.prog V = .ok (.string (strOfNums l0)) V) (ds := []) #[false, false, false, false, false, false, false] (by kernel_rfl) rfl rfl (HCV.out _ S9.out.bel) (fun hHeld => ?_); clear S L hb0 hb1; generalize World.drew _ = w65 at S9 L9 hHeld ⊢; refine pu_ 0 70 ?_
      refine pu_ 1 71 ?_
      refine pu_ 4 74 ?_
      refine tk_ 5 75 hHeld ?_
      refine on_ 2 72 (fun K hK => ?_); refine goes_ Try.func23 (by kernel_rfl) rfl #[.slice Ao E.length co, .int .i64 (rd spec_l7Read.ps (j : Int))] (by rfl) rfl rfl (by (try simp only [List.map_toArray, List.map_cons, List.map_nil]); first | done | rfl) ?_; (with_reducible refine (spec_l7Build.calls k Ao co E _ t _ (spec_l7Entries.Ents.reads S9.out.ents).2 hco HTB.out).mono ?_); rintro e w66 ⟨v72, rfl, ho, hb⟩; refine ⟨_, rfl, ?_⟩; obtain ⟨A72, c72, e72⟩ := Kd.R_slice ho; subst e72; have S := A0 (spec_l7Read.Se.below S9.out hb); have L := A0 (Kd.C_below L9.out hb); have hcv := Kd.C_string (P := Try.prog) (c := c72) Try.underlying24 Try.underlying5 Try.underlying9 (Kd.R_reads' ho).2.2; clear ho hb S9 L9 HTB; refine hK.out _ _ (HCV.out _ S.out.bel) (fun hHeld => ?_); clear hK K; refine norm_ (a' := ?_) ?_ ?_; rotate_left
      ·show Act.put _ (some 72) _ = _
       simp only [Act.put, sq_a, sq_b, sq_c, i64_w, i32_w]; rfl
      refine on_ 3 73 (fun K hK => ?_); refine value_ (v := .string (strOfNums t)) (w1 := w66) (by rfl) rfl ?_ ?_; · go_simp
      refine hK.out _ _ (HCV.out _ S.out.bel) (fun hHeld => ?_); clear hK K; refine norm_ (a' := ?_) ?_ ?_; rotate_left
      ·show Act.put _ (some 73) _ = _
       simp only [Act.put, sq_a, sq_b, sq_c, i64_w, i32_w]; rfl
      refine pu_ 6 76 ?_
      refine done_ (by kernel_rfl) ?_; clear hHeld hcv HCV
      by_cases hq : (strOfNums t).toList = (strOfNums l0).toList
      ·have hT := HT2.out
       rw [if_pos hq] at hT; simp only [Option.some.injEq, Prod.mk.injEq] at hT; obtain ⟨rfl, rfl⟩ := hT; have hqb : ((strOfNums t).toList == (strOfNums l0).toList) = true := beq_iff_eq.mpr hq; rw [hqb]
       go_wp2
       go_ret2
       exact ⟨.slice Ao E.length co, rfl, spec_l7Read.Se.ents (srK S.out), spec_l7Read.Se.bel (srK S.out)⟩
      ·have hT := HT2.out
       rw [if_neg hq] at hT; have hqb : ((strOfNums t).toList == (strOfNums l0).toList) = false := beq_eq_false_iff_ne.mpr hq; rw [hqb]; have HT := A0 hT; clear HT2 hT
       have hwj : IntKind.i64.wrap ((j : Int) + 1) = ((j + 1 : Nat) : Int) := by rw [i64_w]; unfold wrap64; omega
       go_wp2
       go_roundg (20 - (j + 1))
       case measure => omega
       case rel => exact ⟨j + 1, by omega, by omega, by first | rfl | (simp; done), HT, ⟨(srK S.out)⟩, ⟨cK L.out⟩⟩
     ·obtain rfl : j = 20 := by omega
      simp only [Nat.sub_self, spec_l7Read.tries, Option.some.injEq, Prod.mk.injEq] at hT; obtain ⟨rfl, rfl⟩ := hT
      go_wp2
      go_ret2
      exact ⟨.slice none 0 0, rfl, spec_l7Entries.Ents.nil _ _, spec_l7Read.Se.bel (srK S.out)⟩
/-! ### spec_BoundsOf: function 18, by hand -/
def spec_BoundsOf.f (k : Nat) (l0 : List Int) : Option (ByteArray × ByteArray × Int) := (spec_l7Read.f k l0).bind fun p => if p.2 = 0 then (if 1 ≤ p.1.length ∧ p.1.length ≤ 1000000 then some ((rd_T51 p.1 0).f0, (rd_T51 p.1 ((p.1.length : Int) - 1)).f0, 0) else none) else some (⟨#[]⟩, ⟨#[]⟩, p.2)
set_option maxHeartbeats 8000000 in
set_option maxRecDepth 100000 in
theorem spec_BoundsOf.calls (k : Nat) (A0_ : Option Addr) (c0 : Nat) (l0 : List Int) (r1 : ByteArray) (r2 : ByteArray) (r3 : Int) (w : World) (hr0 : Kd.C (Kd.int .u8) w A0_ l0.length l0) (hc0 : l0.length ≤ c0) (h : spec_BoundsOf.f k l0 = some (r1, r2, r3)) :
  Calls Try.prog 18 #[.slice A0_ l0.length c0] w fun e w' => e = .returned (.tuple #[.string r1, .string r2, .int .i64 r3]) ∧ Below w.heap.size w w' := by
 have hu3 := Try.underlying51
 unfold spec_BoundsOf.f at h
 obtain ⟨⟨E, q⟩, h1, h⟩ := Option.bind_eq_some_iff.mp h
 dsimp only at h
 have HB := A0 (Below.refl w.heap.size w)
 have HX := A0 h1
 have HR0 := A0 hr0
 have HC0 := A0 hc0
 clear h1 hr0 hc0
 by_cases hq : q = 0
 case neg =>
  rw [if_neg hq] at h; simp only [Option.some.injEq, Prod.mk.injEq] at h; obtain ⟨rfl, rfl, rfl⟩ := h; have hq1 : (q == 0) = false := beq_eq_false_iff_ne.mpr hq; have hq2 : (q != 0) = true := bne_iff_ne.mpr hq
  go_enter Try.func18, Try.ntmps18
  go_wp2_with (first | (go_at_call 31; (with_reducible refine (spec_l7Read.calls k A0_ c0 l0 E _ _ (Kd.C_below HR0.out (bL HB.out)) HC0.out HX.out).mono ?_); rintro e w8 ⟨v8, rfl, ho, hb⟩; obtain ⟨A, c, e8, hc⟩ := ho.slice; subst e8; have L := A0 ho.reads.2; have HB2 := A0 (below_step (bL HB.out) hb); clear HB ho hb; have HB := HB2; clear HB2))
  go_ret3
  exact ⟨rfl, bL HB.out⟩
 rw [if_pos hq] at h
 by_cases hE : 1 ≤ E.length ∧ E.length ≤ 1000000
 case neg => rw [if_neg hE] at h; cases h
 rw [if_pos hE] at h
 simp only [Option.some.injEq, Prod.mk.injEq] at h
 obtain ⟨rfl, rfl, rfl⟩ := h
 subst hq
 have hn : E ≠ [] := by intro e; subst e; simp at hE
 have hw1 : wrap64 ((E.length : Int) - 1) = (E.length : Int) - 1 := by unfold wrap64; omega
 have hd0 : decide ((0 : Int) < (E.length : Int)) = true := decide_eq_true (by omega)
 have hd4 : decide (0 < E.length) = true := decide_eq_true (by omega)
 have hd1 : decide ((E.length : Int) - 1 < (E.length : Int)) = true := decide_eq_true (by omega)
 have hd2 : decide (0 ≤ (E.length : Int) - 1) = true := decide_eq_true (by omega)
 have hd3 : (E.length : Int) - 1 < (E.length : Int) := by omega
 have hd5 : 0 ≤ (E.length : Int) - 1 := by omega
 have hd6 : 0 < E.length := by omega
 have hd7 : (1 : Int) ≤ (E.length : Int) := by omega
 go_enter Try.func18, Try.ntmps18
 go_wp2_with (first | (go_at_call 31; (with_reducible refine (spec_l7Read.calls k A0_ c0 l0 E _ _ (Kd.C_below HR0.out (bL HB.out)) HC0.out HX.out).mono ?_); rintro e w8 ⟨v8, rfl, ho, hb⟩; obtain ⟨A, c, e8, hc⟩ := ho.slice; subst e8; have L := A0 ho.reads.2; have HB2 := A0 (below_step (bL HB.out) hb); clear HB ho hb; have HB := HB2; clear HB2))
 have L9 := A0 (Kd.C_drew (cK L.out))
 have HB1 := A0 (below_drew1 (bL HB.out))
 obtain ⟨ad, _, _, eA, k1, _⟩ := at_T51 L9.out 0 (by omega) (by omega)
 obtain ⟨ad2, _, _, eA2, k2, _⟩ := at_T51 L9.out ((E.length : Int) - 1) (by omega) (by omega)
 subst eA
 obtain rfl := Option.some.inj eA2
 rw [show ((E.length : Int) - 1).toNat = E.length - 1 by omega] at k2
 have k3 : World.cell? _ ad = _ := k1
 have k4 := k1
 simp only [Int.toNat_zero, Nat.zero_mul] at k4
 refine start_ (n := 14) (S := fun V => V.cell? ad = some (.string (rd_T51 E 0).f0) ∧ V.cell? (ad.add 0) = some (.string (rd_T51 E 0).f0) ∧ V.cell? (ad.add ((E.length - 1) * 9)) = some (.string (rd_T51 E ((E.length : Int) - 1)).f0)) (ds := []) bq10_0 (by kernel_rfl) rfl rfl ⟨k3, k4, k2⟩ (fun hHeld => ?_)
 clear L HB L9 k1 k2 k3 k4 eA2
 generalize World.drew _ = w20 at HB1 hHeld ⊢
 refine pure_ (i := 0) (N := some 15) (v := ?_) (a' := ?_) bq10_1 rfl rfl (by kernel_rfl) (fun _ _ _ h => h) (Or.inl ⟨by rfl, ?_⟩) ?_ ?_
 rotate_left
 ·intro w'; go_simp; with_reducible rfl
 rotate_left
 ·simp only [Act.put, sq_a, sq_b, sq_c, i64_w, i32_w]; rfl
 refine pure_ (i := 1) (N := some 16) (v := ?_) (a' := ?_) bq10_2 rfl rfl (by kernel_rfl) (fun _ _ _ h => h) (Or.inl ⟨by rfl, ?_⟩) ?_ ?_
 rotate_left
 ·intro w'; go_simp; with_reducible rfl
 rotate_left
 ·simp only [Act.put, sq_a, sq_b, sq_c, i64_w, i32_w]; rfl
 refine pure_ (i := 2) (N := some 17) (v := ?_) (a' := ?_) bq10_3 rfl rfl (by kernel_rfl) (fun _ _ _ h => h) (Or.inl ⟨by rfl, ?_⟩) ?_ ?_
 rotate_left
 ·intro w'; go_simp; with_reducible rfl
 rotate_left
 ·simp only [Act.put, sq_a, sq_b, sq_c, i64_w, i32_w]; rfl
 refine take_ (i := 3) (N := some 18) (v := ?_) (a' := ?_) bq10_4 rfl rfl (by kernel_rfl) (fun _ _ _ h => h) (Or.inl ⟨by rfl, ?_⟩) hHeld ?_ ?_
 rotate_left
 ·rintro w' ⟨s0, s1, s2⟩; go_simp; with_reducible rfl
 rotate_left
 ·simp only [Act.put, sq_a, sq_b, sq_c, i64_w, i32_w]; rfl
 refine pure_ (i := 4) (N := some 19) (v := ?_) (a' := ?_) bq10_15 rfl rfl (by kernel_rfl) (fun _ _ _ h => h) (Or.inl ⟨by rfl, ?_⟩) ?_ ?_
 rotate_left
 ·intro w'; go_simp; with_reducible rfl
 rotate_left
 ·simp only [Act.put, sq_a, sq_b, sq_c, i64_w, i32_w]; rfl
 refine pure_ (i := 5) (N := some 20) (v := ?_) (a' := ?_) bq10_16 rfl rfl (by kernel_rfl) (fun _ _ _ h => h) (Or.inl ⟨by rfl, ?_⟩) ?_ ?_
 rotate_left
 ·intro w'; go_simp; with_reducible rfl
 rotate_left
 ·simp only [Act.put, sq_a, sq_b, sq_c, i64_w, i32_w]; rfl
 refine pure_ (i := 6) (N := some 21) (v := ?_) (a' := ?_) bq10_17 rfl rfl (by kernel_rfl) (fun _ _ _ h => h) (Or.inl ⟨by rfl, ?_⟩) ?_ ?_
 rotate_left
 ·intro w'; go_simp; with_reducible rfl
 rotate_left
 ·simp only [Act.put, sq_a, sq_b, sq_c, i64_w, i32_w]; rfl
 refine pure_ (i := 7) (N := some 22) (v := ?_) (a' := ?_) bq10_18 rfl rfl (by kernel_rfl) (fun _ _ _ h => h) (Or.inl ⟨by rfl, ?_⟩) ?_ ?_
 rotate_left
 ·intro w'; go_simp; with_reducible rfl
 rotate_left
 ·simp only [Act.put, sq_a, sq_b, sq_c, i64_w, i32_w]; rfl
 refine pure_ (i := 8) (N := some 23) (v := ?_) (a' := ?_) bq10_19 rfl rfl (by kernel_rfl) (fun _ _ _ h => h) (Or.inl ⟨by rfl, ?_⟩) ?_ ?_
 rotate_left
 ·intro w'; go_simp; with_reducible rfl
 rotate_left
 ·simp only [Act.put, sq_a, sq_b, sq_c, i64_w, i32_w]; rfl
 refine pure_ (i := 9) (N := some 24) (v := ?_) (a' := ?_) bq10_20 rfl rfl (by kernel_rfl) (fun _ _ _ h => h) (Or.inl ⟨by rfl, ?_⟩) ?_ ?_
 rotate_left
 ·intro w'; go_simp; with_reducible rfl
 rotate_left
 ·simp only [Act.put, sq_a, sq_b, sq_c, i64_w, i32_w]; rfl
 refine take_ (i := 10) (N := some 25) (v := ?_) (a' := ?_) bq10_21 rfl rfl (by kernel_rfl) (fun _ _ _ h => h) (Or.inl ⟨by rfl, ?_⟩) hHeld ?_ ?_
 rotate_left
 ·rintro w' ⟨s0, s1, s2⟩; go_simp; with_reducible rfl
 rotate_left
 ·simp only [Act.put, sq_a, sq_b, sq_c, i64_w, i32_w]; rfl
 refine pure_ (i := 11) (N := some 2) (v := ?_) (a' := ?_) bq10_12 rfl rfl (by kernel_rfl) (fun _ _ _ h => h) (Or.inl ⟨by rfl, ?_⟩) ?_ ?_
 rotate_left
 ·intro w'; go_simp; with_reducible rfl
 rotate_left
 ·simp only [Act.put, sq_a, sq_b, sq_c, i64_w, i32_w]; rfl
 refine pure_ (i := 12) (N := some 3) (v := ?_) (a' := ?_) bq10_13 rfl rfl (by kernel_rfl) (fun _ _ _ h => h) (Or.inl ⟨by rfl, ?_⟩) ?_ ?_
 rotate_left
 ·intro w'; go_simp; with_reducible rfl
 rotate_left
 ·simp only [Act.put, sq_a, sq_b, sq_c, i64_w, i32_w]; rfl
 refine pure_ (i := 13) (N := some 4) (v := ?_) (a' := ?_) bq10_14 rfl rfl (by kernel_rfl) (fun _ _ _ h => h) (Or.inl ⟨by rfl, ?_⟩) ?_ ?_
 rotate_left
 ·intro w'; go_simp; with_reducible rfl
 rotate_left
 ·simp only [Act.put, sq_a, sq_b, sq_c, i64_w, i32_w]; rfl
 refine done_ (by kernel_rfl) ?_
 clear hHeld
 go_wp2
 go_ret3
 exact ⟨rfl, bL HB1.out⟩
/-! ### impl_within: function 25 -/
def impl_within.f (a0 : Int) (a1 : Int) (a2 : Int) : Option (Bool) := if a0 ≥ a1 then (some (decide (a0 ≤ a2))) else (some false)
set_option maxHeartbeats 8000000 in
set_option maxRecDepth 100000 in
theorem impl_within.calls (a0 : Int) (a1 : Int) (a2 : Int) (r : Bool) (w : World) (h : impl_within.f a0 a1 a2 = some r) :
  Calls Try.prog 25 #[.int .i64 a0, .int .i64 a1, .int .i64 a2] w fun e w' => e = .returned (.bool r) ∧ Drawn0 w w' := by
 have H : (if a0 ≥ a1 then (some (decide (a0 ≤ a2))) else (some false)) = some r := h
 clear h
 by_cases c4 : a0 ≥ a1
 ·rw [if_pos c4] at H
  have c4b0 : decide (a1 ≤ a0) = true := decide_eq_true c4; clear c4; obtain rfl := Option.some.inj H
  go_enter Try.func25, Try.ntmps25
  go_wp2
  go_ret
  exact ⟨sE, dR⟩
 ·rw [if_neg c4] at H
  have c4b0 : decide (a1 ≤ a0) = false := decide_eq_false c4; clear c4; obtain rfl := Option.some.inj H
  go_enter Try.func25, Try.ntmps25
  go_wp2
  go_ret
  exact ⟨sE, dR⟩
/-! ### impl_isKeyText: function 69 -/
def impl_isKeyText.f (a0 : ByteArray) : Option (Bool) := (impl_within.f (a0.size : Int) 1 140).bind fun t189 => (some t189)
set_option maxHeartbeats 8000000 in
set_option maxRecDepth 100000 in
theorem impl_isKeyText.calls (a0 : ByteArray) (r : Bool) (w : World) (h : impl_isKeyText.f a0 = some r) :
  Calls Try.prog 69 #[.string a0] w fun e w' => e = .returned (.bool r) ∧ Drawn0 w w' := by
 have H : ((impl_within.f (a0.size : Int) 1 140).bind fun t189 => (some t189)) = some r := h
 clear h
 replace H := Option.bind_eq_some_iff.mp H
 obtain ⟨t189, A20, H⟩ := H
 (try dsimp only at H)
 have A2 := Aside0.mk A20
 clear A20
 obtain rfl := Option.some.inj H
 go_enter Try.func69, Try.ntmps69
 go_wp2_with (first | ((with_reducible refine gate_callee (f := 25) rfl ?_); refine gL (some 5) Try.func25 #[.int .i64 (a0.size : Int), .int .i64 1, .int .i64 140] ?_; (with_reducible refine (impl_within.calls (a0.size : Int) 1 140 t189 _ A2.out).mono ?_); rintro e w' ⟨rfl, ⟨nd, rfl⟩⟩; refine ⟨_, rfl, ?_⟩))
 go_ret
 exact ⟨sE, dR⟩
/-! ### impl_Agg_isZero: function 70 -/
def impl_Agg_isZero.f (a0_0 : Int) (a0_1 : Int) (a0_2 : Int) (a0_3 : Int) (l0_4 : List Int) (a0_5 : Bool) : Option (Bool) := if a0_0 = 0 then (if a0_1 = 0 then (if a0_2 = 0 then (if a0_3 = 0 then (if (l0_4.length : Int) = 0 then (some (!a0_5)) else (some false)) else (some false)) else (some false)) else (some false)) else (some false)
set_option maxHeartbeats 8000000 in
set_option maxRecDepth 100000 in
theorem impl_Agg_isZero.calls (a0_0 : Int) (a0_1 : Int) (a0_2 : Int) (a0_3 : Int) (A0_4 : Option Addr) (c0_4 : Nat) (l0_4 : List Int) (a0_5 : Bool) (r : Bool) (w : World) (hr0_4 : Kd.C (Kd.int .i64) w A0_4 l0_4.length l0_4) (hc0_4 : l0_4.length ≤ c0_4) (h : impl_Agg_isZero.f a0_0 a0_1 a0_2 a0_3 l0_4 a0_5 = some r) :
  Calls Try.prog 70 #[.agg #[.int .i64 a0_0, .int .i64 a0_1, .int .i64 a0_2, .int .i64 a0_3, .slice A0_4 l0_4.length c0_4, .bool a0_5]] w fun e w' => e = .returned (.bool r) ∧ Below w.heap.size w w' := by
 have hu49 := Try.underlying49
 have HR0_4 := Aside0.mk hr0_4
 have HC0_4 := Aside0.mk hc0_4
 clear hr0_4 hc0_4
 have HB := mK (Below.refl w.heap.size w)
 have H : (if a0_0 = 0 then (if a0_1 = 0 then (if a0_2 = 0 then (if a0_3 = 0 then (if (l0_4.length : Int) = 0 then (some (!a0_5)) else (some false)) else (some false)) else (some false)) else (some false)) else (some false)) = some r := h
 clear h
 by_cases c2 : a0_0 = 0
 ·rw [if_pos c2] at H
  have c2b0 : (a0_0 == 0) = true := beq_iff_eq.mpr c2; have c2b1 : (a0_0 != 0) = false := bne_eq_false_iff_eq.mpr c2; clear c2
  by_cases c3 : a0_1 = 0
  ·rw [if_pos c3] at H
   have c3b0 : (a0_1 == 0) = true := beq_iff_eq.mpr c3; have c3b1 : (a0_1 != 0) = false := bne_eq_false_iff_eq.mpr c3; clear c3
   by_cases c4 : a0_2 = 0
   ·rw [if_pos c4] at H
    have c4b0 : (a0_2 == 0) = true := beq_iff_eq.mpr c4; have c4b1 : (a0_2 != 0) = false := bne_eq_false_iff_eq.mpr c4; clear c4
    by_cases c5 : a0_3 = 0
    ·rw [if_pos c5] at H
     have c5b0 : (a0_3 == 0) = true := beq_iff_eq.mpr c5; have c5b1 : (a0_3 != 0) = false := bne_eq_false_iff_eq.mpr c5; clear c5
     by_cases c6 : (l0_4.length : Int) = 0
     ·rw [if_pos c6] at H
      have c6b0 : ((l0_4.length : Int) == 0) = true := beq_iff_eq.mpr c6; have c6b1 : ((l0_4.length : Int) != 0) = false := bne_eq_false_iff_eq.mpr c6; clear c6; obtain rfl := Option.some.inj H
      go_enter Try.func70, Try.ntmps70
      go_wp2_with (first | ((with_reducible refine gate_dst (N := 1) rfl ?_); (try (refine gate_guard (by rfl) ?_; dsimp only)); refine box_event ?hg (N := 1) ?hd (cs := #[.int .i64 a0_0, .int .i64 a0_1, .int .i64 a0_2, .int .i64 a0_3, .slice A0_4 l0_4.length c0_4, .bool a0_5]) (t := 49) ?hr ?_; (case hd => rfl); (case hg => rfl); (case hr => first | (go_simp; done) | (go_simp; rfl)); intro gb190 hg w7 hbox hb; have _ := mK (below_step (bL HB.out) hb); have _ := mK (hbox); have _ := mK (sL hg (bL HB.out)); have _ := mK (sL hg (bL HB.out)); clear HB; rename_i HB BK190 GW190 GE190; clear hb hbox hg; obtain ⟨_, _, _, _, _, _⟩ := kc6 BK190.out; obtain ⟨_, _, _, _, _, _⟩ := kf6 BK190.out))
      go_ret
      exact ⟨sE, bL HB.out⟩
     ·rw [if_neg c6] at H
      have c6b0 : ((l0_4.length : Int) == 0) = false := beq_eq_false_iff_ne.mpr c6; have c6b1 : ((l0_4.length : Int) != 0) = true := bne_iff_ne.mpr c6
      have c6b2 : ¬ (l0_4 = []) := fun h_ => c6 (by rw [h_]; rfl)
      obtain rfl := Option.some.inj H
      go_enter Try.func70, Try.ntmps70
      go_wp2_with (first | ((with_reducible refine gate_dst (N := 1) rfl ?_); (try (refine gate_guard (by rfl) ?_; dsimp only)); refine box_event ?hg (N := 1) ?hd (cs := #[.int .i64 a0_0, .int .i64 a0_1, .int .i64 a0_2, .int .i64 a0_3, .slice A0_4 l0_4.length c0_4, .bool a0_5]) (t := 49) ?hr ?_; (case hd => rfl); (case hg => rfl); (case hr => first | (go_simp; done) | (go_simp; rfl)); intro gb190 hg w9 hbox hb; have _ := mK (below_step (bL HB.out) hb); have _ := mK (hbox); have _ := mK (sL hg (bL HB.out)); have _ := mK (sL hg (bL HB.out)); clear HB; rename_i HB BK190 GW190 GE190; clear hb hbox hg; obtain ⟨_, _, _, _, _, _⟩ := kc6 BK190.out; obtain ⟨_, _, _, _, _, _⟩ := kf6 BK190.out))
      go_ret
      exact ⟨sE, bL HB.out⟩
    ·rw [if_neg c5] at H
     have c5b0 : (a0_3 == 0) = false := beq_eq_false_iff_ne.mpr c5; have c5b1 : (a0_3 != 0) = true := bne_iff_ne.mpr c5; obtain rfl := Option.some.inj H
     go_enter Try.func70, Try.ntmps70
     go_wp2_with (first | ((with_reducible refine gate_dst (N := 1) rfl ?_); (try (refine gate_guard (by rfl) ?_; dsimp only)); refine box_event ?hg (N := 1) ?hd (cs := #[.int .i64 a0_0, .int .i64 a0_1, .int .i64 a0_2, .int .i64 a0_3, .slice A0_4 l0_4.length c0_4, .bool a0_5]) (t := 49) ?hr ?_; (case hd => rfl); (case hg => rfl); (case hr => first | (go_simp; done) | (go_simp; rfl)); intro gb190 hg w11 hbox hb; have _ := mK (below_step (bL HB.out) hb); have _ := mK (hbox); have _ := mK (sL hg (bL HB.out)); have _ := mK (sL hg (bL HB.out)); clear HB; rename_i HB BK190 GW190 GE190; clear hb hbox hg; obtain ⟨_, _, _, _, _, _⟩ := kc6 BK190.out; obtain ⟨_, _, _, _, _, _⟩ := kf6 BK190.out))
     go_ret
     exact ⟨sE, bL HB.out⟩
   ·rw [if_neg c4] at H
    have c4b0 : (a0_2 == 0) = false := beq_eq_false_iff_ne.mpr c4; have c4b1 : (a0_2 != 0) = true := bne_iff_ne.mpr c4; obtain rfl := Option.some.inj H
    go_enter Try.func70, Try.ntmps70
    go_wp2_with (first | ((with_reducible refine gate_dst (N := 1) rfl ?_); (try (refine gate_guard (by rfl) ?_; dsimp only)); refine box_event ?hg (N := 1) ?hd (cs := #[.int .i64 a0_0, .int .i64 a0_1, .int .i64 a0_2, .int .i64 a0_3, .slice A0_4 l0_4.length c0_4, .bool a0_5]) (t := 49) ?hr ?_; (case hd => rfl); (case hg => rfl); (case hr => first | (go_simp; done) | (go_simp; rfl)); intro gb190 hg w13 hbox hb; have _ := mK (below_step (bL HB.out) hb); have _ := mK (hbox); have _ := mK (sL hg (bL HB.out)); have _ := mK (sL hg (bL HB.out)); clear HB; rename_i HB BK190 GW190 GE190; clear hb hbox hg; obtain ⟨_, _, _, _, _, _⟩ := kc6 BK190.out; obtain ⟨_, _, _, _, _, _⟩ := kf6 BK190.out))
    go_ret
    exact ⟨sE, bL HB.out⟩
  ·rw [if_neg c3] at H
   have c3b0 : (a0_1 == 0) = false := beq_eq_false_iff_ne.mpr c3; have c3b1 : (a0_1 != 0) = true := bne_iff_ne.mpr c3; obtain rfl := Option.some.inj H
   go_enter Try.func70, Try.ntmps70
   go_wp2_with (first | ((with_reducible refine gate_dst (N := 1) rfl ?_); (try (refine gate_guard (by rfl) ?_; dsimp only)); refine box_event ?hg (N := 1) ?hd (cs := #[.int .i64 a0_0, .int .i64 a0_1, .int .i64 a0_2, .int .i64 a0_3, .slice A0_4 l0_4.length c0_4, .bool a0_5]) (t := 49) ?hr ?_; (case hd => rfl); (case hg => rfl); (case hr => first | (go_simp; done) | (go_simp; rfl)); intro gb190 hg w15 hbox hb; have _ := mK (below_step (bL HB.out) hb); have _ := mK (hbox); have _ := mK (sL hg (bL HB.out)); have _ := mK (sL hg (bL HB.out)); clear HB; rename_i HB BK190 GW190 GE190; clear hb hbox hg; obtain ⟨_, _, _, _, _, _⟩ := kc6 BK190.out; obtain ⟨_, _, _, _, _, _⟩ := kf6 BK190.out))
   go_ret
   exact ⟨sE, bL HB.out⟩
 ·rw [if_neg c2] at H
  have c2b0 : (a0_0 == 0) = false := beq_eq_false_iff_ne.mpr c2; have c2b1 : (a0_0 != 0) = true := bne_iff_ne.mpr c2; obtain rfl := Option.some.inj H
  go_enter Try.func70, Try.ntmps70
  go_wp2_with (first | ((with_reducible refine gate_dst (N := 1) rfl ?_); (try (refine gate_guard (by rfl) ?_; dsimp only)); refine box_event ?hg (N := 1) ?hd (cs := #[.int .i64 a0_0, .int .i64 a0_1, .int .i64 a0_2, .int .i64 a0_3, .slice A0_4 l0_4.length c0_4, .bool a0_5]) (t := 49) ?hr ?_; (case hd => rfl); (case hg => rfl); (case hr => first | (go_simp; done) | (go_simp; rfl)); intro gb190 hg w17 hbox hb; have _ := mK (below_step (bL HB.out) hb); have _ := mK (hbox); have _ := mK (sL hg (bL HB.out)); have _ := mK (sL hg (bL HB.out)); clear HB; rename_i HB BK190 GW190 GE190; clear hb hbox hg; obtain ⟨_, _, _, _, _, _⟩ := kc6 BK190.out; obtain ⟨_, _, _, _, _, _⟩ := kf6 BK190.out))
  go_ret
  exact ⟨sE, bL HB.out⟩
/-! ### impl_isValue: function 96 -/
def impl_isValue.f (a0 : Int) : Option (Bool) := (impl_within.f a0 (-1000000000) 1000000000).bind fun t191 => (some t191)
set_option maxHeartbeats 8000000 in
set_option maxRecDepth 100000 in
theorem impl_isValue.calls (a0 : Int) (r : Bool) (w : World) (h : impl_isValue.f a0 = some r) :
  Calls Try.prog 96 #[.int .i64 a0] w fun e w' => e = .returned (.bool r) ∧ Drawn0 w w' := by
 have H : ((impl_within.f a0 (-1000000000) 1000000000).bind fun t191 => (some t191)) = some r := h
 clear h
 replace H := Option.bind_eq_some_iff.mp H
 obtain ⟨t191, A20, H⟩ := H
 (try dsimp only at H)
 have A2 := Aside0.mk A20
 clear A20
 obtain rfl := Option.some.inj H
 go_enter Try.func96, Try.ntmps96
 go_wp2_with (first | ((with_reducible refine gate_callee (f := 25) rfl ?_); refine gL (some 4) Try.func25 #[.int .i64 a0, .int .i64 (-1000000000), .int .i64 1000000000] ?_; (with_reducible refine (impl_within.calls a0 (-1000000000) 1000000000 t191 _ A2.out).mono ?_); rintro e w' ⟨rfl, ⟨nd, rfl⟩⟩; refine ⟨_, rfl, ?_⟩))
 go_ret
 exact ⟨sE, dR⟩
end Go.Proofs.Ytllmlnagihlokaa.PFnExactBoundsOf
