-- Written by a program of this session.
import Derived.Test.YtllmlnagihlokaaPFnExactBlocksOfx0
import Derived.Test.YtllmlnagihlokaaPFnExactBlocksOfx1
import Derived.Test.YtllmlnagihlokaaPFnExactBlocksOfx10
import Derived.Test.YtllmlnagihlokaaPFnExactBlocksOfx20
namespace Go.Proofs.Ytllmlnagihlokaa.PFnExactBlocksOf
open Go.RowKit Go.Proofs.YtllmlnagihlokaaW.PrintWords Go.Proofs.YtllmlnagihlokaaW.PrintLast Go.Proofs.YtllmlnagihlokaaW.PrintMore
set_option linter.unusedVariables false
set_option linter.unusedSimpArgs false
attribute [local go_sem] max2_int min2_int max_two min_two max_three min_three max_four min_four hw_string_geq hw_string_gtr hw_string_leq
/-! ### impl_BlocksOf: function 17, by hand -/
def impl_BlocksOf.f (k : Nat) (l0 : List Int) : Option (Int × Int) := (impl_readTable.f k l0).bind fun p => if p.1.length ≤ 1000000 then some ((((p.1.length + 3) / 4 : Nat) : Int), p.2) else none
set_option maxHeartbeats 8000000 in
set_option maxRecDepth 100000 in
theorem impl_BlocksOf.calls (k : Nat) (A0_ : Option Addr) (c0 : Nat) (l0 : List Int) (r1 : Int) (r2 : Int) (w : World) (hr0 : Kd.C (Kd.int .u8) w A0_ l0.length l0) (hc0 : l0.length ≤ c0) (h : impl_BlocksOf.f k l0 = some (r1, r2)) :
  Calls Try.prog 17 #[.slice A0_ l0.length c0] w fun e w' => e = .returned (.tuple #[.int .i64 r1, .int .i64 r2]) ∧ Below w.heap.size w w' := by
 unfold impl_BlocksOf.f at h
 obtain ⟨⟨E, q⟩, h1, h⟩ := Option.bind_eq_some_iff.mp h
 by_cases hE : E.length ≤ 1000000
 case neg => rw [if_neg hE] at h; cases h
 rw [if_pos hE] at h
 simp only [Option.some.injEq, Prod.mk.injEq] at h
 obtain ⟨rfl, rfl⟩ := h
 have HB := A0 (Below.refl w.heap.size w)
 have HX := A0 h1
 have HR0 := A0 hr0
 have HC0 := A0 hc0
 have hw1 : IntKind.i64.wrap ((E.length : Int) + 4) = (E.length : Int) + 4 := by rw [i64_w]; unfold wrap64; omega
 have hw2 : IntKind.i64.wrap ((E.length : Int) + 4 - 1) = ((E.length + 3 : Nat) : Int) := by rw [i64_w]; unfold wrap64; omega
 have hw3 : IntKind.i64.wrap ((((E.length + 3) / 4 : Nat) : Int)) = ((((E.length + 3) / 4 : Nat) : Int)) := by rw [i64_w]; unfold wrap64; omega
 clear h1 hr0 hc0
 go_enter Try.func17, Try.ntmps17
 go_wp2_with (first | (go_at_call 32; (with_reducible refine (impl_readTable.calls k A0_ c0 l0 E q _ (Kd.C_below HR0.out (bL HB.out)) HC0.out HX.out).mono ?_); rintro e w8 ⟨v8, rfl, ho, hb⟩; obtain ⟨A, c, e8, hc⟩ := ho.slice; subst e8; have HB2 := A0 (below_step (bL HB.out) hb); clear HB ho hb; have HB := HB2; clear HB2))
 go_ret2
 exact ⟨rfl, bL HB.out⟩
/-! ### laws_FnExactBlocksOf: function 4, a law by hand -/
def laws_FnExactBlocksOf.f (k : Nat) (l0 : List Int) : Option (Bool) := if 1048576 < (l0.length : Int) then some true else (laws_toByteS.f k l0).bind fun t1 => (spec_BlocksOf.f k t1).bind fun bt2 => (laws_toByteS.f k l0).bind fun t4 => (impl_BlocksOf.f k t4).bind fun bt5 => (laws_toByteS.f k l0).bind fun t7 => (laws_eqByteS.f k t4 t7).bind fun t8 => if bt5.1 = bt2.1 ∧ bt5.2 = bt2.2 ∧ t8 = true then some true else none
set_option maxHeartbeats 16000000 in
set_option maxRecDepth 100000 in
theorem laws_FnExactBlocksOf.calls (k : Nat) (A0 : Option Addr) (c0 : Nat) (l0 : List Int) (r : Bool) (w : World) (hr0 : Kd.C (Kd.int .u8) w A0 l0.length l0) (hc0 : l0.length ≤ c0) (h : laws_FnExactBlocksOf.f k l0 = some r) :
  Calls Try.prog 4 #[.slice A0 l0.length c0] w fun e w' => e = .returned (.bool r) ∧ Below w.heap.size w w' := by
 have HR0 := Aside0.mk hr0
 have HC0 := Aside0.mk hc0
 clear hr0 hc0
 have HB := mK (Below.refl w.heap.size w)
 unfold laws_FnExactBlocksOf.f at h
 by_cases hl0 : 1048576 < (l0.length : Int)
 ·rw [if_pos hl0] at h
  have hlb0 := decide_eq_true hl0; clear hl0; obtain rfl := Option.some.inj h; clear h
  go_enter Try.func4, Try.ntmps4
  go_wp2
  go_ret
  exact ⟨by first | rfl | (simp; done), (bL HB.out)⟩
 rw [if_neg hl0] at h
 have hlb0 := decide_eq_false hl0
 clear hl0
 replace h := Option.bind_eq_some_iff.mp h
 obtain ⟨t1, hA1, h⟩ := h
 have A1_ := mK (show laws_toByteS.f k l0 = some t1 from hA1)
 clear hA1
 try dsimp only at h
 replace h := Option.bind_eq_some_iff.mp h
 obtain ⟨⟨t2, t3⟩, hA2, h⟩ := h
 have A2_ := mK (show spec_BlocksOf.f k t1 = some (t2, t3) from hA2)
 clear hA2
 try dsimp only at h
 replace h := Option.bind_eq_some_iff.mp h
 obtain ⟨t4, hA3, h⟩ := h
 have A3_ := mK (show laws_toByteS.f k l0 = some t4 from hA3)
 clear hA3
 try dsimp only at h
 replace h := Option.bind_eq_some_iff.mp h
 obtain ⟨⟨t5, t6⟩, hA4, h⟩ := h
 have A4_ := mK (show impl_BlocksOf.f k t4 = some (t5, t6) from hA4)
 clear hA4
 try dsimp only at h
 replace h := Option.bind_eq_some_iff.mp h
 obtain ⟨t7, hA5, h⟩ := h
 have A5_ := mK (show laws_toByteS.f k l0 = some t7 from hA5)
 clear hA5
 try dsimp only at h
 replace h := Option.bind_eq_some_iff.mp h
 obtain ⟨t8, hA6, h⟩ := h
 have A6_ := mK (show laws_eqByteS.f k t4 t7 = some t8 from hA6)
 clear hA6
 try dsimp only at h
 by_cases hcond : t5 = t2 ∧ t6 = t3 ∧ t8 = true
 ·rw [if_pos hcond] at h
  obtain rfl := Option.some.inj h; clear h; obtain ⟨z0_, z1_, z2_⟩ := hcond; have zb0 := bne_eq_false_iff_eq.mpr z0_; have ze0 := beq_iff_eq.mpr z0_; clear z0_; have zb1 := bne_eq_false_iff_eq.mpr z1_; have ze1 := beq_iff_eq.mpr z1_; clear z1_; subst z2_
  go_enter Try.func4, Try.ntmps4
  go_wp2_with (first | ((with_reducible refine gate_callee (f := 16) rfl ?_); refine gL (some 13) Try.func16 #[.slice A0 l0.length c0] ?_; (with_reducible refine (laws_toByteS.calls k _ _ l0 t1 _ ?side1 ?side2 A1_.out).mono ?_); (case side1 => exact cK (Kd.C_below HR0.out HB.out)); (case side2 => exact HC0.out); rintro e w1_ ⟨v101, rfl, ho101, hb⟩; refine ⟨_, rfl, ?_⟩; have sz_ : w.heap.size ≤ w1_.heap.size := hb.size; have _ := mK (below_step (bL HB.out) hb); have _ := mK (mineR ho101 (show _ = w.heap.size from rfl) (below_size (bL HB.out))); clear HB; rename_i HB HO101; have SZ1 := Aside0.mk sz_; clear sz_ hb ho101; obtain ⟨A101, c101, eo101⟩ := Kd.R_slice HO101.out; subst eo101) | ((with_reducible refine gate_callee (f := 15) rfl ?_); refine gL (some 14) Try.func15 #[.slice A101 t1.length c101] ?_; (with_reducible refine (spec_BlocksOf.calls k _ _ t1 t2 t3 _ ?side1 ?side2 A2_.out).mono ?_); (case side1 => exact cK (Kd.R_reads' HO101.out).2.2); (case side2 => exact (Kd.R_reads' HO101.out).2.1); rintro e w2_ ⟨rfl, hb⟩; refine ⟨_, rfl, ?_⟩; have sz_ : w1_.heap.size ≤ w2_.heap.size := hb.size; have _ := mK (Kd.R_below (rK HO101.out) hb); have _ := mK (below_step (bL HB.out) hb); clear HO101 HB; rename_i HO101 HB; have SZ2 := Aside0.mk sz_; clear sz_ hb) | ((with_reducible refine gate_callee (f := 16) rfl ?_); refine gL (some 18) Try.func16 #[.slice A0 l0.length c0] ?_; (with_reducible refine (laws_toByteS.calls k _ _ l0 t4 _ ?side1 ?side2 A3_.out).mono ?_); (case side1 => exact cK (Kd.C_below HR0.out HB.out)); (case side2 => exact HC0.out); rintro e w3_ ⟨v104, rfl, ho104, hb⟩; refine ⟨_, rfl, ?_⟩; have sz_ : w2_.heap.size ≤ w3_.heap.size := hb.size; have _ := mK (Kd.R_below (rK HO101.out) hb); have _ := mK (below_step (bL HB.out) hb); have _ := mK (mineR ho104 (show _ = w2_.heap.size from rfl) (below_size (bL HB.out))); clear HO101 HB; rename_i HO101 HB HO104; have SZ3 := Aside0.mk sz_; clear sz_ hb ho104; obtain ⟨A104, c104, eo104⟩ := Kd.R_slice HO104.out; subst eo104) | ((with_reducible refine gate_callee (f := 17) rfl ?_); refine gL (some 21) Try.func17 #[.slice A104 t4.length c104] ?_; (with_reducible refine (impl_BlocksOf.calls k _ _ t4 t5 t6 _ ?side1 ?side2 A4_.out).mono ?_); (case side1 => exact cK (Kd.R_reads' HO104.out).2.2); (case side2 => exact (Kd.R_reads' HO104.out).2.1); rintro e w4_ ⟨rfl, hb⟩; refine ⟨_, rfl, ?_⟩; have sz_ : w3_.heap.size ≤ w4_.heap.size := hb.size; have _ := mK (Kd.R_below (rK HO101.out) hb); have _ := mK (Kd.R_below (rK HO104.out) hb); have _ := mK (below_step (bL HB.out) hb); clear HO101 HO104 HB; rename_i HO101 HO104 HB; have SZ4 := Aside0.mk sz_; clear sz_ hb) | ((with_reducible refine gate_callee (f := 16) rfl ?_); refine gL (some 34) Try.func16 #[.slice A0 l0.length c0] ?_; (with_reducible refine (laws_toByteS.calls k _ _ l0 t7 _ ?side1 ?side2 A5_.out).mono ?_); (case side1 => exact cK (Kd.C_below HR0.out HB.out)); (case side2 => exact HC0.out); rintro e w5_ ⟨v107, rfl, ho107, hb⟩; refine ⟨_, rfl, ?_⟩; have sz_ : w4_.heap.size ≤ w5_.heap.size := hb.size; have _ := mK (Kd.R_below (rK HO101.out) hb); have _ := mK (Kd.R_below (rK HO104.out) hb); have _ := mK (below_step (bL HB.out) hb); have _ := mK (mineR ho107 (show _ = w4_.heap.size from rfl) (below_size (bL HB.out))); clear HO101 HO104 HB; rename_i HO101 HO104 HB HO107; have SZ5 := Aside0.mk sz_; clear sz_ hb ho107; obtain ⟨A107, c107, eo107⟩ := Kd.R_slice HO107.out; subst eo107) | ((with_reducible refine gate_callee (f := 10) rfl ?_); refine gL (some 35) Try.func10 #[.slice A104 t4.length c104, .slice A107 t7.length c107] ?_; (with_reducible refine (laws_eqByteS.calls k _ _ t4 _ _ t7 true _ ?side1 ?side2 ?side3 ?side4 A6_.out).mono ?_); (case side1 => exact cK (Kd.R_reads' HO104.out).2.2); (case side2 => exact (Kd.R_reads' HO104.out).2.1); (case side3 => exact cK (Kd.R_reads' HO107.out).2.2); (case side4 => exact (Kd.R_reads' HO107.out).2.1); rintro e w6_ ⟨rfl, hb⟩; refine ⟨_, rfl, ?_⟩; replace hb := Drawn0.below hb; have sz_ : w5_.heap.size ≤ w6_.heap.size := hb.size; have _ := mK (Kd.R_below (rK HO101.out) hb); have _ := mK (Kd.R_below (rK HO104.out) hb); have _ := mK (Kd.R_below (rK HO107.out) hb); have _ := mK (below_step (bL HB.out) hb); clear HO101 HO104 HO107 HB; rename_i HO101 HO104 HO107 HB; have SZ6 := Aside0.mk sz_; clear sz_ hb))
  go_ret
  exact ⟨by first | rfl | (simp; done), (bL HB.out)⟩
 ·rw [if_neg hcond] at h
  cases h
/-- THE ONE PURE STATEMENT of laws_FnExactBlocksOf. -/
def laws_FnExactBlocksOf.Pure : Prop := ∀ (l0 : List Int), (l0.length ≤ maxLen ∧ ∀ x ∈ l0, (Lit.int .u8 x).wf = true) → ∃ k, laws_FnExactBlocksOf.f k l0 = some true
end Go.Proofs.Ytllmlnagihlokaa.PFnExactBlocksOf
