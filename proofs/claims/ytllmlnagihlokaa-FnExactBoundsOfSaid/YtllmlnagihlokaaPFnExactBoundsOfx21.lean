-- Written by a program of this session.
import Derived.Test.YtllmlnagihlokaaPFnExactBoundsOfx0
import Derived.Test.YtllmlnagihlokaaPFnExactBoundsOfx1
import Derived.Test.YtllmlnagihlokaaPFnExactBoundsOfx10
import Derived.Test.YtllmlnagihlokaaPFnExactBoundsOfx20
namespace Go.Proofs.Ytllmlnagihlokaa.PFnExactBoundsOf
open Go.RowKit Go.Proofs.YtllmlnagihlokaaW.PrintWords Go.Proofs.YtllmlnagihlokaaW.PrintLast Go.Proofs.YtllmlnagihlokaaW.PrintMore
attribute [local go_sem] max2_int min2_int max_two min_two max_three min_three max_four min_four hw_string_geq hw_string_gtr hw_string_leq
set_option linter.unusedVariables false
set_option linter.unusedSimpArgs false
abbrev bq21_0 : Array Bool := #[false, false, false, false, false, false, false, false, false, false, false, false, false, false]
abbrev bq21_1 : Array Bool := #[true, false, false, false, false, false, false, false, false, false, false, false, false, false]
abbrev bq21_2 : Array Bool := #[true, true, false, false, false, false, false, false, false, false, false, false, false, false]
abbrev bq21_3 : Array Bool := #[true, true, true, false, false, false, false, false, false, false, false, false, false, false]
abbrev bq21_4 : Array Bool := #[true, true, true, true, false, false, false, false, false, false, false, false, false, false]
abbrev bq21_5 : Array Bool := #[true, true, true, true, true, false, false, false, false, false, false, false, false, false]
abbrev bq21_6 : Array Bool := #[true, true, true, true, true, true, false, false, false, false, false, false, false, false]
abbrev bq21_7 : Array Bool := #[true, true, true, true, true, true, true, false, false, false, false, false, false, false]
abbrev bq21_8 : Array Bool := #[true, true, true, true, true, true, true, true, false, false, false, false, false, false]
abbrev bq21_9 : Array Bool := #[true, true, true, true, true, true, true, true, true, false, false, false, false, false]
abbrev bq21_10 : Array Bool := #[true, true, true, true, true, true, true, true, true, true, false, false, false, false]
abbrev bq21_11 : Array Bool := #[true, true, true, true, true, true, true, true, true, true, true, false, false, false]
abbrev bq21_12 : Array Bool := #[true, true, true, true, true, true, true, true, true, true, true, true, false, false]
abbrev bq21_13 : Array Bool := #[true, true, true, true, true, true, true, true, true, true, true, true, true, false]
abbrev bq21_14 : Array Bool := #[true, true, true, true, true, true, true, true, true, true, true, true, true, true]
/-! ### impl_BoundsOf: function 19, by hand -/
def impl_BoundsOf.f (k : Nat) (l0 : List Int) : Option (ByteArray × ByteArray × Int) := (impl_readTable.f k l0).bind fun p => if p.2 = 0 then (if 1 ≤ p.1.length ∧ p.1.length ≤ 1000000 then some ((rd_T51 p.1 0).f0, (rd_T51 p.1 ((p.1.length : Int) - 1)).f0, 0) else none) else some (⟨#[]⟩, ⟨#[]⟩, p.2)
set_option maxHeartbeats 8000000 in
set_option maxRecDepth 100000 in
theorem impl_BoundsOf.calls (k : Nat) (A0_ : Option Addr) (c0 : Nat) (l0 : List Int) (r1 : ByteArray) (r2 : ByteArray) (r3 : Int) (w : World) (hr0 : Kd.C (Kd.int .u8) w A0_ l0.length l0) (hc0 : l0.length ≤ c0) (h : impl_BoundsOf.f k l0 = some (r1, r2, r3)) :
  Calls Try.prog 19 #[.slice A0_ l0.length c0] w fun e w' => e = .returned (.tuple #[.string r1, .string r2, .int .i64 r3]) ∧ Below w.heap.size w w' := by
 have hu3 := Try.underlying51
 unfold impl_BoundsOf.f at h
 obtain ⟨⟨E, q⟩, h1, h⟩ := Option.bind_eq_some_iff.mp h
 dsimp only at h
 have HB := A0 (Below.refl w.heap.size w)
 have HX := A0 h1
 have HR0 := A0 hr0
 have HC0 := A0 hc0
 clear h1 hr0 hc0
 by_cases hq : q = 0
 case neg =>
  rw [if_neg hq] at h; simp only [Option.some.injEq, Prod.mk.injEq] at h; obtain ⟨rfl, rfl, rfl⟩ := h; have hq1 : (q == 0) = false := beq_eq_false_iff_ne.mpr hq; have hq2 : (q != 0) = true := bne_iff_ne.mpr hq
  go_enter Try.func19, Try.ntmps19
  go_wp2_with (first | (go_at_call 32; (with_reducible refine (impl_readTable.calls k A0_ c0 l0 E _ _ (Kd.C_below HR0.out (bL HB.out)) HC0.out HX.out).mono ?_); rintro e w8 ⟨v8, rfl, ho, hb⟩; obtain ⟨A, c, e8, hc⟩ := ho.slice; subst e8; have L := A0 ho.reads.2; have HB2 := A0 (below_step (bL HB.out) hb); clear HB ho hb; have HB := HB2; clear HB2))
  go_ret3
  exact ⟨rfl, bL HB.out⟩
 rw [if_pos hq] at h
 by_cases hE : 1 ≤ E.length ∧ E.length ≤ 1000000
 case neg => rw [if_neg hE] at h; cases h
 rw [if_pos hE] at h
 simp only [Option.some.injEq, Prod.mk.injEq] at h
 obtain ⟨rfl, rfl, rfl⟩ := h
 subst hq
 have hn : E ≠ [] := by intro e; subst e; simp at hE
 have hw1 : wrap64 ((E.length : Int) - 1) = (E.length : Int) - 1 := by unfold wrap64; omega
 have hd0 : decide ((0 : Int) < (E.length : Int)) = true := decide_eq_true (by omega)
 have hd4 : decide (0 < E.length) = true := decide_eq_true (by omega)
 have hd1 : decide ((E.length : Int) - 1 < (E.length : Int)) = true := decide_eq_true (by omega)
 have hd2 : decide (0 ≤ (E.length : Int) - 1) = true := decide_eq_true (by omega)
 have hd3 : (E.length : Int) - 1 < (E.length : Int) := by omega
 have hd5 : 0 ≤ (E.length : Int) - 1 := by omega
 have hd6 : 0 < E.length := by omega
 have hd7 : (1 : Int) ≤ (E.length : Int) := by omega
 go_enter Try.func19, Try.ntmps19
 go_wp2_with (first | (go_at_call 32; (with_reducible refine (impl_readTable.calls k A0_ c0 l0 E _ _ (Kd.C_below HR0.out (bL HB.out)) HC0.out HX.out).mono ?_); rintro e w8 ⟨v8, rfl, ho, hb⟩; obtain ⟨A, c, e8, hc⟩ := ho.slice; subst e8; have L := A0 ho.reads.2; have HB2 := A0 (below_step (bL HB.out) hb); clear HB ho hb; have HB := HB2; clear HB2))
 have L9 := A0 (Kd.C_drew (cK L.out))
 have HB1 := A0 (below_drew1 (bL HB.out))
 obtain ⟨ad, _, _, eA, k1, _⟩ := at_T51 L9.out 0 (by omega) (by omega)
 obtain ⟨ad2, _, _, eA2, k2, _⟩ := at_T51 L9.out ((E.length : Int) - 1) (by omega) (by omega)
 subst eA
 obtain rfl := Option.some.inj eA2
 rw [show ((E.length : Int) - 1).toNat = E.length - 1 by omega] at k2
 have k3 : World.cell? _ ad = _ := k1
 have k4 := k1
 simp only [Int.toNat_zero, Nat.zero_mul] at k4
 refine start_ (n := 14) (S := fun V => V.cell? ad = some (.string (rd_T51 E 0).f0) ∧ V.cell? (ad.add 0) = some (.string (rd_T51 E 0).f0) ∧ V.cell? (ad.add ((E.length - 1) * 9)) = some (.string (rd_T51 E ((E.length : Int) - 1)).f0)) (ds := []) bq21_0 (by kernel_rfl) rfl rfl ⟨k3, k4, k2⟩ (fun hHeld => ?_)
 clear L HB L9 k1 k2 k3 k4 eA2
 generalize World.drew _ = w20 at HB1 hHeld ⊢
 refine pure_ (i := 0) (N := some 15) (v := ?_) (a' := ?_) bq21_1 rfl rfl (by kernel_rfl) (fun _ _ _ h => h) (Or.inl ⟨by rfl, ?_⟩) ?_ ?_
 rotate_left
 ·intro w'; go_simp; with_reducible rfl
 rotate_left
 ·simp only [Act.put, sq_a, sq_b, sq_c, i64_w, i32_w]; rfl
 refine pure_ (i := 1) (N := some 16) (v := ?_) (a' := ?_) bq21_2 rfl rfl (by kernel_rfl) (fun _ _ _ h => h) (Or.inl ⟨by rfl, ?_⟩) ?_ ?_
 rotate_left
 ·intro w'; go_simp; with_reducible rfl
 rotate_left
 ·simp only [Act.put, sq_a, sq_b, sq_c, i64_w, i32_w]; rfl
 refine pure_ (i := 2) (N := some 17) (v := ?_) (a' := ?_) bq21_3 rfl rfl (by kernel_rfl) (fun _ _ _ h => h) (Or.inl ⟨by rfl, ?_⟩) ?_ ?_
 rotate_left
 ·intro w'; go_simp; with_reducible rfl
 rotate_left
 ·simp only [Act.put, sq_a, sq_b, sq_c, i64_w, i32_w]; rfl
 refine take_ (i := 3) (N := some 18) (v := ?_) (a' := ?_) bq21_4 rfl rfl (by kernel_rfl) (fun _ _ _ h => h) (Or.inl ⟨by rfl, ?_⟩) hHeld ?_ ?_
 rotate_left
 ·rintro w' ⟨s0, s1, s2⟩; go_simp; with_reducible rfl
 rotate_left
 ·simp only [Act.put, sq_a, sq_b, sq_c, i64_w, i32_w]; rfl
 refine pure_ (i := 4) (N := some 19) (v := ?_) (a' := ?_) bq21_5 rfl rfl (by kernel_rfl) (fun _ _ _ h => h) (Or.inl ⟨by rfl, ?_⟩) ?_ ?_
 rotate_left
 ·intro w'; go_simp; with_reducible rfl
 rotate_left
 ·simp only [Act.put, sq_a, sq_b, sq_c, i64_w, i32_w]; rfl
 refine pure_ (i := 5) (N := some 20) (v := ?_) (a' := ?_) bq21_6 rfl rfl (by kernel_rfl) (fun _ _ _ h => h) (Or.inl ⟨by rfl, ?_⟩) ?_ ?_
 rotate_left
 ·intro w'; go_simp; with_reducible rfl
 rotate_left
 ·simp only [Act.put, sq_a, sq_b, sq_c, i64_w, i32_w]; rfl
 refine pure_ (i := 6) (N := some 21) (v := ?_) (a' := ?_) bq21_7 rfl rfl (by kernel_rfl) (fun _ _ _ h => h) (Or.inl ⟨by rfl, ?_⟩) ?_ ?_
 rotate_left
 ·intro w'; go_simp; with_reducible rfl
 rotate_left
 ·simp only [Act.put, sq_a, sq_b, sq_c, i64_w, i32_w]; rfl
 refine pure_ (i := 7) (N := some 22) (v := ?_) (a' := ?_) bq21_8 rfl rfl (by kernel_rfl) (fun _ _ _ h => h) (Or.inl ⟨by rfl, ?_⟩) ?_ ?_
 rotate_left
 ·intro w'; go_simp; with_reducible rfl
 rotate_left
 ·simp only [Act.put, sq_a, sq_b, sq_c, i64_w, i32_w]; rfl
 refine pure_ (i := 8) (N := some 23) (v := ?_) (a' := ?_) bq21_9 rfl rfl (by kernel_rfl) (fun _ _ _ h => h) (Or.inl ⟨by rfl, ?_⟩) ?_ ?_
 rotate_left
 ·intro w'; go_simp; with_reducible rfl
 rotate_left
 ·simp only [Act.put, sq_a, sq_b, sq_c, i64_w, i32_w]; rfl
 refine pure_ (i := 9) (N := some 24) (v := ?_) (a' := ?_) bq21_10 rfl rfl (by kernel_rfl) (fun _ _ _ h => h) (Or.inl ⟨by rfl, ?_⟩) ?_ ?_
 rotate_left
 ·intro w'; go_simp; with_reducible rfl
 rotate_left
 ·simp only [Act.put, sq_a, sq_b, sq_c, i64_w, i32_w]; rfl
 refine take_ (i := 10) (N := some 25) (v := ?_) (a' := ?_) bq21_11 rfl rfl (by kernel_rfl) (fun _ _ _ h => h) (Or.inl ⟨by rfl, ?_⟩) hHeld ?_ ?_
 rotate_left
 ·rintro w' ⟨s0, s1, s2⟩; go_simp; with_reducible rfl
 rotate_left
 ·simp only [Act.put, sq_a, sq_b, sq_c, i64_w, i32_w]; rfl
 refine pure_ (i := 11) (N := some 2) (v := ?_) (a' := ?_) bq21_12 rfl rfl (by kernel_rfl) (fun _ _ _ h => h) (Or.inl ⟨by rfl, ?_⟩) ?_ ?_
 rotate_left
 ·intro w'; go_simp; with_reducible rfl
 rotate_left
 ·simp only [Act.put, sq_a, sq_b, sq_c, i64_w, i32_w]; rfl
 refine pure_ (i := 12) (N := some 3) (v := ?_) (a' := ?_) bq21_13 rfl rfl (by kernel_rfl) (fun _ _ _ h => h) (Or.inl ⟨by rfl, ?_⟩) ?_ ?_
 rotate_left
 ·intro w'; go_simp; with_reducible rfl
 rotate_left
 ·simp only [Act.put, sq_a, sq_b, sq_c, i64_w, i32_w]; rfl
 refine pure_ (i := 13) (N := some 4) (v := ?_) (a' := ?_) bq21_14 rfl rfl (by kernel_rfl) (fun _ _ _ h => h) (Or.inl ⟨by rfl, ?_⟩) ?_ ?_
 rotate_left
 ·intro w'; go_simp; with_reducible rfl
 rotate_left
 ·simp only [Act.put, sq_a, sq_b, sq_c, i64_w, i32_w]; rfl
 refine done_ (by kernel_rfl) ?_
 clear hHeld
 go_wp2
 go_ret3
 exact ⟨rfl, bL HB1.out⟩
/-! ### laws_FnExactBoundsOf: function 5, a law by hand -/
def laws_FnExactBoundsOf.f (k : Nat) (l0 : List Int) : Option (Bool) := if 1048576 < (l0.length : Int) then some true else (laws_toByteS.f k l0).bind fun t1 => (spec_BoundsOf.f k t1).bind fun bt2 => (laws_toByteS.f k l0).bind fun t5 => (impl_BoundsOf.f k t5).bind fun bt6 => (laws_toByteS.f k l0).bind fun t9 => (laws_eqByteS.f k t5 t9).bind fun t10 => if bt6.1 = bt2.1 ∧ bt6.2.1 = bt2.2.1 ∧ bt6.2.2 = bt2.2.2 ∧ t10 = true then some true else none
set_option maxHeartbeats 16000000 in
set_option maxRecDepth 100000 in
theorem laws_FnExactBoundsOf.calls (k : Nat) (A0 : Option Addr) (c0 : Nat) (l0 : List Int) (r : Bool) (w : World) (hr0 : Kd.C (Kd.int .u8) w A0 l0.length l0) (hc0 : l0.length ≤ c0) (h : laws_FnExactBoundsOf.f k l0 = some r) :
  Calls Try.prog 5 #[.slice A0 l0.length c0] w fun e w' => e = .returned (.bool r) ∧ Below w.heap.size w w' := by
 have HR0 := Aside0.mk hr0
 have HC0 := Aside0.mk hc0
 clear hr0 hc0
 have HB := mK (Below.refl w.heap.size w)
 unfold laws_FnExactBoundsOf.f at h
 by_cases hl0 : 1048576 < (l0.length : Int)
 ·rw [if_pos hl0] at h
  have hlb0 := decide_eq_true hl0; clear hl0; obtain rfl := Option.some.inj h; clear h
  go_enter Try.func5, Try.ntmps5
  go_wp2
  go_ret
  exact ⟨by first | rfl | (simp; done), (bL HB.out)⟩
 rw [if_neg hl0] at h
 have hlb0 := decide_eq_false hl0
 clear hl0
 replace h := Option.bind_eq_some_iff.mp h
 obtain ⟨t1, hA1, h⟩ := h
 have A1_ := mK (show laws_toByteS.f k l0 = some t1 from hA1)
 clear hA1
 try dsimp only at h
 replace h := Option.bind_eq_some_iff.mp h
 obtain ⟨⟨t2, t3, t4⟩, hA2, h⟩ := h
 have A2_ := mK (show spec_BoundsOf.f k t1 = some (t2, t3, t4) from hA2)
 clear hA2
 try dsimp only at h
 replace h := Option.bind_eq_some_iff.mp h
 obtain ⟨t5, hA3, h⟩ := h
 have A3_ := mK (show laws_toByteS.f k l0 = some t5 from hA3)
 clear hA3
 try dsimp only at h
 replace h := Option.bind_eq_some_iff.mp h
 obtain ⟨⟨t6, t7, t8⟩, hA4, h⟩ := h
 have A4_ := mK (show impl_BoundsOf.f k t5 = some (t6, t7, t8) from hA4)
 clear hA4
 try dsimp only at h
 replace h := Option.bind_eq_some_iff.mp h
 obtain ⟨t9, hA5, h⟩ := h
 have A5_ := mK (show laws_toByteS.f k l0 = some t9 from hA5)
 clear hA5
 try dsimp only at h
 replace h := Option.bind_eq_some_iff.mp h
 obtain ⟨t10, hA6, h⟩ := h
 have A6_ := mK (show laws_eqByteS.f k t5 t9 = some t10 from hA6)
 clear hA6
 try dsimp only at h
 by_cases hcond : t6 = t2 ∧ t7 = t3 ∧ t8 = t4 ∧ t10 = true
 ·rw [if_pos hcond] at h
  obtain rfl := Option.some.inj h; clear h; obtain ⟨z0_, z1_, z2_, z3_⟩ := hcond; have zb0 := bne_eq_false_iff_eq.mpr (congrArg ByteArray.toList z0_); have ze0 := beq_iff_eq.mpr (congrArg ByteArray.toList z0_); clear z0_; have zb1 := bne_eq_false_iff_eq.mpr (congrArg ByteArray.toList z1_); have ze1 := beq_iff_eq.mpr (congrArg ByteArray.toList z1_); clear z1_; have zb2 := bne_eq_false_iff_eq.mpr z2_; have ze2 := beq_iff_eq.mpr z2_; clear z2_; subst z3_
  go_enter Try.func5, Try.ntmps5
  go_wp2_with (first | ((with_reducible refine gate_callee (f := 16) rfl ?_); refine gL (some 15) Try.func16 #[.slice A0 l0.length c0] ?_; (with_reducible refine (laws_toByteS.calls k _ _ l0 t1 _ ?side1 ?side2 A1_.out).mono ?_); (case side1 => exact cK (Kd.C_below HR0.out HB.out)); (case side2 => exact HC0.out); rintro e w1_ ⟨v101, rfl, ho101, hb⟩; refine ⟨_, rfl, ?_⟩; have sz_ : w.heap.size ≤ w1_.heap.size := hb.size; have _ := mK (below_step (bL HB.out) hb); have _ := mK (mineR ho101 (show _ = w.heap.size from rfl) (below_size (bL HB.out))); clear HB; rename_i HB HO101; have SZ1 := Aside0.mk sz_; clear sz_ hb ho101; obtain ⟨A101, c101, eo101⟩ := Kd.R_slice HO101.out; subst eo101) | ((with_reducible refine gate_callee (f := 18) rfl ?_); refine gL (some 16) Try.func18 #[.slice A101 t1.length c101] ?_; (with_reducible refine (spec_BoundsOf.calls k _ _ t1 t2 t3 t4 _ ?side1 ?side2 A2_.out).mono ?_); (case side1 => exact cK (Kd.R_reads' HO101.out).2.2); (case side2 => exact (Kd.R_reads' HO101.out).2.1); rintro e w2_ ⟨rfl, hb⟩; refine ⟨_, rfl, ?_⟩; have sz_ : w1_.heap.size ≤ w2_.heap.size := hb.size; have _ := mK (Kd.R_below (rK HO101.out) hb); have _ := mK (below_step (bL HB.out) hb); clear HO101 HB; rename_i HO101 HB; have SZ2 := Aside0.mk sz_; clear sz_ hb) | ((with_reducible refine gate_callee (f := 16) rfl ?_); refine gL (some 21) Try.func16 #[.slice A0 l0.length c0] ?_; (with_reducible refine (laws_toByteS.calls k _ _ l0 t5 _ ?side1 ?side2 A3_.out).mono ?_); (case side1 => exact cK (Kd.C_below HR0.out HB.out)); (case side2 => exact HC0.out); rintro e w3_ ⟨v105, rfl, ho105, hb⟩; refine ⟨_, rfl, ?_⟩; have sz_ : w2_.heap.size ≤ w3_.heap.size := hb.size; have _ := mK (Kd.R_below (rK HO101.out) hb); have _ := mK (below_step (bL HB.out) hb); have _ := mK (mineR ho105 (show _ = w2_.heap.size from rfl) (below_size (bL HB.out))); clear HO101 HB; rename_i HO101 HB HO105; have SZ3 := Aside0.mk sz_; clear sz_ hb ho105; obtain ⟨A105, c105, eo105⟩ := Kd.R_slice HO105.out; subst eo105) | ((with_reducible refine gate_callee (f := 19) rfl ?_); refine gL (some 24) Try.func19 #[.slice A105 t5.length c105] ?_; (with_reducible refine (impl_BoundsOf.calls k _ _ t5 t6 t7 t8 _ ?side1 ?side2 A4_.out).mono ?_); (case side1 => exact cK (Kd.R_reads' HO105.out).2.2); (case side2 => exact (Kd.R_reads' HO105.out).2.1); rintro e w4_ ⟨rfl, hb⟩; refine ⟨_, rfl, ?_⟩; have sz_ : w3_.heap.size ≤ w4_.heap.size := hb.size; have _ := mK (Kd.R_below (rK HO101.out) hb); have _ := mK (Kd.R_below (rK HO105.out) hb); have _ := mK (below_step (bL HB.out) hb); clear HO101 HO105 HB; rename_i HO101 HO105 HB; have SZ4 := Aside0.mk sz_; clear sz_ hb) | ((with_reducible refine gate_callee (f := 16) rfl ?_); refine gL (some 43) Try.func16 #[.slice A0 l0.length c0] ?_; (with_reducible refine (laws_toByteS.calls k _ _ l0 t9 _ ?side1 ?side2 A5_.out).mono ?_); (case side1 => exact cK (Kd.C_below HR0.out HB.out)); (case side2 => exact HC0.out); rintro e w5_ ⟨v109, rfl, ho109, hb⟩; refine ⟨_, rfl, ?_⟩; have sz_ : w4_.heap.size ≤ w5_.heap.size := hb.size; have _ := mK (Kd.R_below (rK HO101.out) hb); have _ := mK (Kd.R_below (rK HO105.out) hb); have _ := mK (below_step (bL HB.out) hb); have _ := mK (mineR ho109 (show _ = w4_.heap.size from rfl) (below_size (bL HB.out))); clear HO101 HO105 HB; rename_i HO101 HO105 HB HO109; have SZ5 := Aside0.mk sz_; clear sz_ hb ho109; obtain ⟨A109, c109, eo109⟩ := Kd.R_slice HO109.out; subst eo109) | ((with_reducible refine gate_callee (f := 10) rfl ?_); refine gL (some 44) Try.func10 #[.slice A105 t5.length c105, .slice A109 t9.length c109] ?_; (with_reducible refine (laws_eqByteS.calls k _ _ t5 _ _ t9 true _ ?side1 ?side2 ?side3 ?side4 A6_.out).mono ?_); (case side1 => exact cK (Kd.R_reads' HO105.out).2.2); (case side2 => exact (Kd.R_reads' HO105.out).2.1); (case side3 => exact cK (Kd.R_reads' HO109.out).2.2); (case side4 => exact (Kd.R_reads' HO109.out).2.1); rintro e w6_ ⟨rfl, hb⟩; refine ⟨_, rfl, ?_⟩; replace hb := Drawn0.below hb; have sz_ : w5_.heap.size ≤ w6_.heap.size := hb.size; have _ := mK (Kd.R_below (rK HO101.out) hb); have _ := mK (Kd.R_below (rK HO105.out) hb); have _ := mK (Kd.R_below (rK HO109.out) hb); have _ := mK (below_step (bL HB.out) hb); clear HO101 HO105 HO109 HB; rename_i HO101 HO105 HO109 HB; have SZ6 := Aside0.mk sz_; clear sz_ hb))
  go_ret
  exact ⟨by first | rfl | (simp; done), (bL HB.out)⟩
 ·rw [if_neg hcond] at h
  cases h
/-- THE ONE PURE STATEMENT of laws_FnExactBoundsOf. -/
def laws_FnExactBoundsOf.Pure : Prop := ∀ (l0 : List Int), (l0.length ≤ maxLen ∧ ∀ x ∈ l0, (Lit.int .u8 x).wf = true) → ∃ k, laws_FnExactBoundsOf.f k l0 = some true
end Go.Proofs.Ytllmlnagihlokaa.PFnExactBoundsOf
