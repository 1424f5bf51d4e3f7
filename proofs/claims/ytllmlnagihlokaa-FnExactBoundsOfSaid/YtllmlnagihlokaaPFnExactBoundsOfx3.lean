-- Written by a program of this session.
import Derived.Test.YtllmlnagihlokaaPFnExactBoundsOfx0
import Derived.Test.YtllmlnagihlokaaPFnExactBoundsOfx1
import Derived.Test.YtllmlnagihlokaaPFnExactBoundsOfx2
namespace Go.Proofs.Ytllmlnagihlokaa.PFnExactBoundsOf
open Go.RowKit Go.Proofs.YtllmlnagihlokaaW.PrintWords Go.Proofs.YtllmlnagihlokaaW.PrintLast Go.Proofs.YtllmlnagihlokaaW.PrintMore
attribute [local go_sem] max2_int min2_int max_two min_two max_three min_three max_four min_four hw_string_geq hw_string_gtr hw_string_leq
set_option linter.unusedVariables false
set_option linter.unusedSimpArgs false
/-! ### spec_l5Zero: function 65 -/
def spec_l5Zero.f (a0_0 : Int) (a0_1 : Int) (a0_2 : Int) (a0_3 : Int) (l0_4 : List Int) (a0_5 : Bool) : Option (Bool) := if a0_0 = 0 then (if a0_1 = 0 then (if a0_2 = 0 then (if a0_3 = 0 then (if (l0_4.length : Int) = 0 then (some (!a0_5)) else (some false)) else (some false)) else (some false)) else (some false)) else (some false)
set_option maxHeartbeats 8000000 in
set_option maxRecDepth 100000 in
theorem spec_l5Zero.calls (a0_0 : Int) (a0_1 : Int) (a0_2 : Int) (a0_3 : Int) (A0_4 : Option Addr) (c0_4 : Nat) (l0_4 : List Int) (a0_5 : Bool) (r : Bool) (w : World) (hr0_4 : Kd.C (Kd.int .i64) w A0_4 l0_4.length l0_4) (hc0_4 : l0_4.length ≤ c0_4) (h : spec_l5Zero.f a0_0 a0_1 a0_2 a0_3 l0_4 a0_5 = some r) :
  Calls Try.prog 65 #[.agg #[.int .i64 a0_0, .int .i64 a0_1, .int .i64 a0_2, .int .i64 a0_3, .slice A0_4 l0_4.length c0_4, .bool a0_5]] w fun e w' => e = .returned (.bool r) ∧ Below w.heap.size w w' := by
 have hu49 := Try.underlying49
 have HR0_4 := Aside0.mk hr0_4
 have HC0_4 := Aside0.mk hc0_4
 clear hr0_4 hc0_4
 have HB := mK (Below.refl w.heap.size w)
 have H : (if a0_0 = 0 then (if a0_1 = 0 then (if a0_2 = 0 then (if a0_3 = 0 then (if (l0_4.length : Int) = 0 then (some (!a0_5)) else (some false)) else (some false)) else (some false)) else (some false)) else (some false)) = some r := h
 clear h
 by_cases c2 : a0_0 = 0
 ·rw [if_pos c2] at H
  have c2b0 : (a0_0 == 0) = true := beq_iff_eq.mpr c2; have c2b1 : (a0_0 != 0) = false := bne_eq_false_iff_eq.mpr c2; clear c2
  by_cases c3 : a0_1 = 0
  ·rw [if_pos c3] at H
   have c3b0 : (a0_1 == 0) = true := beq_iff_eq.mpr c3; have c3b1 : (a0_1 != 0) = false := bne_eq_false_iff_eq.mpr c3; clear c3
   by_cases c4 : a0_2 = 0
   ·rw [if_pos c4] at H
    have c4b0 : (a0_2 == 0) = true := beq_iff_eq.mpr c4; have c4b1 : (a0_2 != 0) = false := bne_eq_false_iff_eq.mpr c4; clear c4
    by_cases c5 : a0_3 = 0
    ·rw [if_pos c5] at H
     have c5b0 : (a0_3 == 0) = true := beq_iff_eq.mpr c5; have c5b1 : (a0_3 != 0) = false := bne_eq_false_iff_eq.mpr c5; clear c5
     by_cases c6 : (l0_4.length : Int) = 0
     ·rw [if_pos c6] at H
      have c6b0 : ((l0_4.length : Int) == 0) = true := beq_iff_eq.mpr c6; have c6b1 : ((l0_4.length : Int) != 0) = false := bne_eq_false_iff_eq.mpr c6; clear c6; obtain rfl := Option.some.inj H
      go_enter Try.func65, Try.ntmps65
      go_wp2_with (first | ((with_reducible refine gate_dst (N := 1) rfl ?_); (try (refine gate_guard (by rfl) ?_; dsimp only)); refine box_event ?hg (N := 1) ?hd (cs := #[.int .i64 a0_0, .int .i64 a0_1, .int .i64 a0_2, .int .i64 a0_3, .slice A0_4 l0_4.length c0_4, .bool a0_5]) (t := 49) ?hr ?_; (case hd => rfl); (case hg => rfl); (case hr => first | (go_simp; done) | (go_simp; rfl)); intro gb116 hg w7 hbox hb; have _ := mK (below_step (bL HB.out) hb); have _ := mK (hbox); have _ := mK (sL hg (bL HB.out)); have _ := mK (sL hg (bL HB.out)); clear HB; rename_i HB BK116 GW116 GE116; clear hb hbox hg; obtain ⟨hcz8_0, hcz8_1, hcz8_2, hcz8_3, hcz8_4, hcz8_5⟩ := kc6 BK116.out; obtain ⟨hfz8_0, hfz8_1, hfz8_2, hfz8_3, hfz8_4, hfz8_5⟩ := kf6 BK116.out))
      go_ret
      exact ⟨sE, bL HB.out⟩
     ·rw [if_neg c6] at H
      have c6b0 : ((l0_4.length : Int) == 0) = false := beq_eq_false_iff_ne.mpr c6; have c6b1 : ((l0_4.length : Int) != 0) = true := bne_iff_ne.mpr c6
      have c6b2 : ¬ (l0_4 = []) := fun h_ => c6 (by rw [h_]; rfl)
      obtain rfl := Option.some.inj H
      go_enter Try.func65, Try.ntmps65
      go_wp2_with (first | ((with_reducible refine gate_dst (N := 1) rfl ?_); (try (refine gate_guard (by rfl) ?_; dsimp only)); refine box_event ?hg (N := 1) ?hd (cs := #[.int .i64 a0_0, .int .i64 a0_1, .int .i64 a0_2, .int .i64 a0_3, .slice A0_4 l0_4.length c0_4, .bool a0_5]) (t := 49) ?hr ?_; (case hd => rfl); (case hg => rfl); (case hr => first | (go_simp; done) | (go_simp; rfl)); intro gb116 hg w9 hbox hb; have _ := mK (below_step (bL HB.out) hb); have _ := mK (hbox); have _ := mK (sL hg (bL HB.out)); have _ := mK (sL hg (bL HB.out)); clear HB; rename_i HB BK116 GW116 GE116; clear hb hbox hg; obtain ⟨_, _, _, _, _, _⟩ := kc6 BK116.out; obtain ⟨_, _, _, _, _, _⟩ := kf6 BK116.out))
      go_ret
      exact ⟨sE, bL HB.out⟩
    ·rw [if_neg c5] at H
     have c5b0 : (a0_3 == 0) = false := beq_eq_false_iff_ne.mpr c5; have c5b1 : (a0_3 != 0) = true := bne_iff_ne.mpr c5; obtain rfl := Option.some.inj H
     go_enter Try.func65, Try.ntmps65
     go_wp2_with (first | ((with_reducible refine gate_dst (N := 1) rfl ?_); (try (refine gate_guard (by rfl) ?_; dsimp only)); refine box_event ?hg (N := 1) ?hd (cs := #[.int .i64 a0_0, .int .i64 a0_1, .int .i64 a0_2, .int .i64 a0_3, .slice A0_4 l0_4.length c0_4, .bool a0_5]) (t := 49) ?hr ?_; (case hd => rfl); (case hg => rfl); (case hr => first | (go_simp; done) | (go_simp; rfl)); intro gb116 hg w11 hbox hb; have _ := mK (below_step (bL HB.out) hb); have _ := mK (hbox); have _ := mK (sL hg (bL HB.out)); have _ := mK (sL hg (bL HB.out)); clear HB; rename_i HB BK116 GW116 GE116; clear hb hbox hg; obtain ⟨_, _, _, _, _, _⟩ := kc6 BK116.out; obtain ⟨_, _, _, _, _, _⟩ := kf6 BK116.out))
     go_ret
     exact ⟨sE, bL HB.out⟩
   ·rw [if_neg c4] at H
    have c4b0 : (a0_2 == 0) = false := beq_eq_false_iff_ne.mpr c4; have c4b1 : (a0_2 != 0) = true := bne_iff_ne.mpr c4; obtain rfl := Option.some.inj H
    go_enter Try.func65, Try.ntmps65
    go_wp2_with (first | ((with_reducible refine gate_dst (N := 1) rfl ?_); (try (refine gate_guard (by rfl) ?_; dsimp only)); refine box_event ?hg (N := 1) ?hd (cs := #[.int .i64 a0_0, .int .i64 a0_1, .int .i64 a0_2, .int .i64 a0_3, .slice A0_4 l0_4.length c0_4, .bool a0_5]) (t := 49) ?hr ?_; (case hd => rfl); (case hg => rfl); (case hr => first | (go_simp; done) | (go_simp; rfl)); intro gb116 hg w13 hbox hb; have _ := mK (below_step (bL HB.out) hb); have _ := mK (hbox); have _ := mK (sL hg (bL HB.out)); have _ := mK (sL hg (bL HB.out)); clear HB; rename_i HB BK116 GW116 GE116; clear hb hbox hg; obtain ⟨hcz14_0, hcz14_1, hcz14_2, hcz14_3, hcz14_4, hcz14_5⟩ := kc6 BK116.out; obtain ⟨hfz14_0, hfz14_1, hfz14_2, hfz14_3, hfz14_4, hfz14_5⟩ := kf6 BK116.out))
    go_ret
    exact ⟨sE, bL HB.out⟩
  ·rw [if_neg c3] at H
   have c3b0 : (a0_1 == 0) = false := beq_eq_false_iff_ne.mpr c3; have c3b1 : (a0_1 != 0) = true := bne_iff_ne.mpr c3; obtain rfl := Option.some.inj H
   go_enter Try.func65, Try.ntmps65
   go_wp2_with (first | ((with_reducible refine gate_dst (N := 1) rfl ?_); (try (refine gate_guard (by rfl) ?_; dsimp only)); refine box_event ?hg (N := 1) ?hd (cs := #[.int .i64 a0_0, .int .i64 a0_1, .int .i64 a0_2, .int .i64 a0_3, .slice A0_4 l0_4.length c0_4, .bool a0_5]) (t := 49) ?hr ?_; (case hd => rfl); (case hg => rfl); (case hr => first | (go_simp; done) | (go_simp; rfl)); intro gb116 hg w15 hbox hb; have _ := mK (below_step (bL HB.out) hb); have _ := mK (hbox); have _ := mK (sL hg (bL HB.out)); have _ := mK (sL hg (bL HB.out)); clear HB; rename_i HB BK116 GW116 GE116; clear hb hbox hg; obtain ⟨_, _, _, _, _, _⟩ := kc6 BK116.out; obtain ⟨_, _, _, _, _, _⟩ := kf6 BK116.out))
   go_ret
   exact ⟨sE, bL HB.out⟩
 ·rw [if_neg c2] at H
  have c2b0 : (a0_0 == 0) = false := beq_eq_false_iff_ne.mpr c2; have c2b1 : (a0_0 != 0) = true := bne_iff_ne.mpr c2; obtain rfl := Option.some.inj H
  go_enter Try.func65, Try.ntmps65
  go_wp2_with (first | ((with_reducible refine gate_dst (N := 1) rfl ?_); (try (refine gate_guard (by rfl) ?_; dsimp only)); refine box_event ?hg (N := 1) ?hd (cs := #[.int .i64 a0_0, .int .i64 a0_1, .int .i64 a0_2, .int .i64 a0_3, .slice A0_4 l0_4.length c0_4, .bool a0_5]) (t := 49) ?hr ?_; (case hd => rfl); (case hg => rfl); (case hr => first | (go_simp; done) | (go_simp; rfl)); intro gb116 hg w17 hbox hb; have _ := mK (below_step (bL HB.out) hb); have _ := mK (hbox); have _ := mK (sL hg (bL HB.out)); have _ := mK (sL hg (bL HB.out)); clear HB; rename_i HB BK116 GW116 GE116; clear hb hbox hg; obtain ⟨hcz18_0, hcz18_1, hcz18_2, hcz18_3, hcz18_4, hcz18_5⟩ := kc6 BK116.out; obtain ⟨hfz18_0, hfz18_1, hfz18_2, hfz18_3, hfz18_4, hfz18_5⟩ := kf6 BK116.out))
  go_ret
  exact ⟨sE, bL HB.out⟩
/-! ### spec_GoodEntry: function 34 -/
mutual
def spec_GoodEntry.j0 : Nat → Bool → ByteArray → Int → Int → Int → Int → Int → Int → List Int → Bool → Option (Bool)
 | 0, _, _, _, _, _, _, _, _, _, _ => none
 | k + 1, x13, x118000, x118001, x118002, x118003, x118004, x118005, x118006, x118007, x118008 => if x13 = true then (some false) else (if x118002 = 1 then (spec_GoodEntry.j1 k x118002 (x118002 == 1) x118000 x118001 x118002 x118003 x118004 x118005 x118006 x118007 x118008) else (spec_GoodEntry.j1 k x118002 (x118002 == 3) x118000 x118001 x118002 x118003 x118004 x118005 x118006 x118007 x118008))
def spec_GoodEntry.j1 : Nat → Int → Bool → ByteArray → Int → Int → Int → Int → Int → Int → List Int → Bool → Option (Bool)
 | 0, _, _, _, _, _, _, _, _, _, _, _ => none
 | k + 1, x15, x16, x118000, x118001, x118002, x118003, x118004, x118005, x118006, x118007, x118008 => if x16 = true then ((spec_GoodAgg.f k x118003 x118004 x118005 x118006 x118007 x118008).bind fun t120 => (some t120)) else (if x15 = 2 then ((spec_l5Zero.f x118003 x118004 x118005 x118006 x118007 x118008).bind fun t121 => (some t121)) else (some false))
end
def spec_GoodEntry.f (k : Nat) (a0_0 : ByteArray) (a0_1 : Int) (a0_2 : Int) (a0_3 : Int) (a0_4 : Int) (a0_5 : Int) (a0_6 : Int) (l0_7 : List Int) (a0_8 : Bool) : Option (Bool) := (spec_l1In.f (a0_0.size : Int) 1 140).bind fun t118 => (if t118 = true then ((spec_l1In.f a0_1 1 1000000000).bind fun t119 => (spec_GoodEntry.j0 k (!t119) a0_0 a0_1 a0_2 a0_3 a0_4 a0_5 a0_6 l0_7 a0_8)) else (spec_GoodEntry.j0 k true a0_0 a0_1 a0_2 a0_3 a0_4 a0_5 a0_6 l0_7 a0_8))
set_option maxHeartbeats 8000000 in
set_option maxRecDepth 100000 in
theorem spec_GoodEntry.calls (k : Nat) (a0_0 : ByteArray) (a0_1 : Int) (a0_2 : Int) (a0_3 : Int) (a0_4 : Int) (a0_5 : Int) (a0_6 : Int) (A0_7 : Option Addr) (c0_7 : Nat) (l0_7 : List Int) (a0_8 : Bool) (r : Bool) (w : World) (hr0_7 : Kd.C (Kd.int .i64) w A0_7 l0_7.length l0_7) (hc0_7 : l0_7.length ≤ c0_7) (h : spec_GoodEntry.f k a0_0 a0_1 a0_2 a0_3 a0_4 a0_5 a0_6 l0_7 a0_8 = some r) :
  Calls Try.prog 34 #[.agg #[.string a0_0, .int .i64 a0_1, .int .i64 a0_2, .int .i64 a0_3, .int .i64 a0_4, .int .i64 a0_5, .int .i64 a0_6, .slice A0_7 l0_7.length c0_7, .bool a0_8]] w fun e w' => e = .returned (.bool r) ∧ Below w.heap.size w w' := by
 have hu51 := Try.underlying51
 have hu49 := Try.underlying49
 have HR0_7 := Aside0.mk hr0_7
 have HC0_7 := Aside0.mk hc0_7
 clear hr0_7 hc0_7
 have HB := mK (Below.refl w.heap.size w)
 have H : ((spec_l1In.f (a0_0.size : Int) 1 140).bind fun t118 => (if t118 = true then ((spec_l1In.f a0_1 1 1000000000).bind fun t119 => (spec_GoodEntry.j0 k (!t119) a0_0 a0_1 a0_2 a0_3 a0_4 a0_5 a0_6 l0_7 a0_8)) else (spec_GoodEntry.j0 k true a0_0 a0_1 a0_2 a0_3 a0_4 a0_5 a0_6 l0_7 a0_8))) = some r := h
 clear h
 have HC2 := Aside0.mk H
 clear H
 go_enter Try.func34, Try.ntmps34
 go_upto_region 1 with (first | ((with_reducible refine gate_dst (N := 1) rfl ?_); refine box_event ?hg (N := 1) ?hd (cs := #[.string a0_0, .int .i64 a0_1, .int .i64 a0_2, .int .i64 a0_3, .int .i64 a0_4, .int .i64 a0_5, .int .i64 a0_6, .slice A0_7 l0_7.length c0_7, .bool a0_8]) (t := 51) ?hr ?_; (case hd => rfl); (case hg => rfl); (case hr => first | (go_simp; done) | (go_simp; rfl)); intro gb117 hg w3 hbox hb; have _ := mK (below_step (bL HB.out) hb); have _ := mK (hbox); have _ := mK (sL hg (bL HB.out)); clear HB; rename_i HB BK117 GE117; clear hb hbox hg))
 (try simp only [Act.put, sq_a, sq_b, sq_c])
 go_cut [13] (fun v13 wc => ∃ (kq : Nat) (x13_1 : Bool), v13 = .bool x13_1 ∧ Aside0 (spec_GoodEntry.j0 kq x13_1 a0_0 a0_1 a0_2 a0_3 a0_4 a0_5 a0_6 l0_7 a0_8 = some r) ∧ Aside0 (kq ≤ k) ∧ Aside0 (wc.heap[gb117]? = some (.cells #[.string a0_0, .int .i64 a0_1, .int .i64 a0_2, .int .i64 a0_3, .int .i64 a0_4, .int .i64 a0_5, .int .i64 a0_6, (.slice A0_7 l0_7.length c0_7), .bool a0_8] 51 (0, 0))) ∧ Aside0 (Below w.heap.size w wc))
 case first =>
  have H := HC2.out; clear HC2; replace H := Option.bind_eq_some_iff.mp H; obtain ⟨t118, A40, H⟩ := H; (try dsimp only at H); have A4 := Aside0.mk A40; clear A40
  by_cases c5 : t118 = true
  ·subst c5
   have H1 : ((spec_l1In.f a0_1 1 1000000000).bind fun t119 => (spec_GoodEntry.j0 k (!t119) a0_0 a0_1 a0_2 a0_3 a0_4 a0_5 a0_6 l0_7 a0_8)) = some r := by rw [if_pos rfl] at H; exact H
   clear H; have H := H1; clear H1; replace H := Option.bind_eq_some_iff.mp H; obtain ⟨t119, A60, H⟩ := H; (try dsimp only at H); have A6 := Aside0.mk A60; clear A60; have H' := Aside0.mk H; clear H; obtain ⟨hcz7_0, hcz7_1, hcz7_2, hcz7_3, hcz7_4, hcz7_5, hcz7_6, hcz7_7, hcz7_8⟩ := kc9 BK117.out; obtain ⟨hfz7_0, hfz7_1, hfz7_2, hfz7_3, hfz7_4, hfz7_5, hfz7_6, hfz7_7, hfz7_8⟩ := kf9 BK117.out
   go_wp2_with (first | ((with_reducible refine gate_callee (f := 21) rfl ?_); refine gL (some 6) Try.func21 #[.int .i64 (a0_0.size : Int), .int .i64 1, .int .i64 140] ?_; (with_reducible refine (spec_l1In.calls (a0_0.size : Int) 1 140 true _ A4.out).mono ?_); rintro e w' ⟨rfl, ⟨nd, rfl⟩⟩; refine ⟨_, rfl, ?_⟩) | (go_at_call 21; (with_reducible refine (spec_l1In.calls a0_1 1 1000000000 t119 _ A6.out).mono ?_); rintro e w' ⟨rfl, ⟨nd, rfl⟩⟩))
   go_meet
   case rel => exact ⟨_, (!t119), sE, H', ⟨by first | omega | exact Nat.le_refl _⟩, ⟨bK BK117.out⟩, ⟨bL HB.out⟩⟩
  ·replace c5 := Bool.eq_false_iff.mpr c5
   subst c5
   have H1 : (spec_GoodEntry.j0 k true a0_0 a0_1 a0_2 a0_3 a0_4 a0_5 a0_6 l0_7 a0_8) = some r := by rw [if_neg (show ¬ (false = true) by decide)] at H; exact H
   clear H; have H := H1; clear H1; have H' := Aside0.mk H; clear H; obtain ⟨hcz8_0, hcz8_1, hcz8_2, hcz8_3, hcz8_4, hcz8_5, hcz8_6, hcz8_7, hcz8_8⟩ := kc9 BK117.out; obtain ⟨hfz8_0, hfz8_1, hfz8_2, hfz8_3, hfz8_4, hfz8_5, hfz8_6, hfz8_7, hfz8_8⟩ := kf9 BK117.out
   go_wp2_with (first | ((with_reducible refine gate_callee (f := 21) rfl ?_); refine gL (some 6) Try.func21 #[.int .i64 (a0_0.size : Int), .int .i64 1, .int .i64 140] ?_; (with_reducible refine (spec_l1In.calls (a0_0.size : Int) 1 140 false _ A4.out).mono ?_); rintro e w' ⟨rfl, ⟨nd, rfl⟩⟩; refine ⟨_, rfl, ?_⟩))
   go_meet
   case rel => exact ⟨_, (true), sE, H', ⟨by first | omega | exact Nat.le_refl _⟩, ⟨bK BK117.out⟩, ⟨bL HB.out⟩⟩
 case rest =>
  clear HC2
  try clear c2
  try clear p2
  try clear c3
  try clear c5
  try clear hcz7_0
  try clear hcz7_1
  try clear hcz7_2
  try clear hcz7_3
  try clear hcz7_4
  try clear hcz7_5
  try clear hcz7_6
  try clear hcz7_7
  try clear hcz7_8
  try clear hcz8_0
  try clear hcz8_1
  try clear hcz8_2
  try clear hcz8_3
  try clear hcz8_4
  try clear hcz8_5
  try clear hcz8_6
  try clear hcz8_7
  try clear hcz8_8
  try clear hfz7_0
  try clear hfz7_1
  try clear hfz7_2
  try clear hfz7_3
  try clear hfz7_4
  try clear hfz7_5
  try clear hfz7_6
  try clear hfz7_7
  try clear hfz7_8
  try clear hfz8_0
  try clear hfz8_1
  try clear hfz8_2
  try clear hfz8_3
  try clear hfz8_4
  try clear hfz8_5
  try clear hfz8_6
  try clear hfz8_7
  try clear hfz8_8
  obtain ⟨kq, x13_1, rfl, HA, HJ1, BK117, HB⟩ := hcut
  cases kq with
  | zero => exact absurd HA.out (by simp [spec_GoodEntry.j0])
  | succ kj1 =>
   have H := HA.out; clear HA; simp only [spec_GoodEntry.j0] at H
   by_cases c9 : x13_1 = true
   ·subst c9
    have H1 : (some false) = some r := by rw [if_pos rfl] at H; exact H
    clear H; have H := H1; clear H1; obtain rfl := Option.some.inj H
    go_wp2
    go_ret
    exact ⟨sE, bL HB.out⟩
   ·replace c9 := Bool.eq_false_iff.mpr c9
    subst c9
    have H1 : (if a0_2 = 1 then (spec_GoodEntry.j1 kj1 a0_2 (a0_2 == 1) a0_0 a0_1 a0_2 a0_3 a0_4 a0_5 a0_6 l0_7 a0_8) else (spec_GoodEntry.j1 kj1 a0_2 (a0_2 == 3) a0_0 a0_1 a0_2 a0_3 a0_4 a0_5 a0_6 l0_7 a0_8)) = some r := by rw [if_neg (show ¬ (false = true) by decide)] at H; exact H
    clear H; have H := H1; clear H1; have HC10 := Aside0.mk H; clear H; obtain ⟨hcz11_0, hcz11_1, hcz11_2, hcz11_3, hcz11_4, hcz11_5, hcz11_6, hcz11_7, hcz11_8⟩ := kc9 BK117.out; obtain ⟨hfz11_0, hfz11_1, hfz11_2, hfz11_3, hfz11_4, hfz11_5, hfz11_6, hfz11_7, hfz11_8⟩ := kf9 BK117.out
    go_upto_if 16 with (fail)
    go_cut [16] (fun v16 wc => ∃ (kq : Nat) (x16_9 : Bool), v16 = .bool x16_9 ∧ Aside0 (spec_GoodEntry.j1 kq a0_2 x16_9 a0_0 a0_1 a0_2 a0_3 a0_4 a0_5 a0_6 l0_7 a0_8 = some r) ∧ Aside0 (kq ≤ kj1) ∧ Aside0 (wc.heap[gb117]? = some (.cells #[.string a0_0, .int .i64 a0_1, .int .i64 a0_2, .int .i64 a0_3, .int .i64 a0_4, .int .i64 a0_5, .int .i64 a0_6, (.slice A0_7 l0_7.length c0_7), .bool a0_8] 51 (0, 0))) ∧ Aside0 (Below w.heap.size w wc))
    case first =>
     have H := HC10.out; clear HC10
     by_cases c12 : a0_2 = 1
     ·rw [if_pos c12] at H
      have c12b0 : (a0_2 == 1) = true := beq_iff_eq.mpr c12; have c12b1 : (a0_2 != 1) = false := bne_eq_false_iff_eq.mpr c12; clear c12; (first | rw [c12b0] | (simp only [i64_w, i32_w]; rw [c12b0]) | skip); have H' := Aside0.mk H; clear H
      go_wp2
      go_meet
      case rel => exact ⟨_, ((a0_2 == 1)), sE, H', ⟨by have := HJ1.out; first | omega | exact Nat.le_refl _⟩, ⟨bK BK117.out⟩, ⟨bL HB.out⟩⟩
     ·rw [if_neg c12] at H
      have c12b0 : (a0_2 == 1) = false := beq_eq_false_iff_ne.mpr c12; have c12b1 : (a0_2 != 1) = true := bne_iff_ne.mpr c12; (first | rw [c12b0] | (simp only [i64_w, i32_w]; rw [c12b0]) | skip); have H' := Aside0.mk H; clear H
      go_wp2
      go_meet
      case rel => exact ⟨_, ((a0_2 == 3)), sE, H', ⟨by have := HJ1.out; first | omega | exact Nat.le_refl _⟩, ⟨bK BK117.out⟩, ⟨bL HB.out⟩⟩
    case rest =>
     clear HC10
     try clear c1
     try clear c2
     try clear p2
     try clear c3
     try clear c5
     try clear c9
     try clear c12
     try clear c12b0
     try clear c12b1
     try clear hcz11_0
     try clear hcz11_1
     try clear hcz11_2
     try clear hcz11_3
     try clear hcz11_4
     try clear hcz11_5
     try clear hcz11_6
     try clear hcz11_7
     try clear hcz11_8
     try clear hcz7_0
     try clear hcz7_1
     try clear hcz7_2
     try clear hcz7_3
     try clear hcz7_4
     try clear hcz7_5
     try clear hcz7_6
     try clear hcz7_7
     try clear hcz7_8
     try clear hcz8_0
     try clear hcz8_1
     try clear hcz8_2
     try clear hcz8_3
     try clear hcz8_4
     try clear hcz8_5
     try clear hcz8_6
     try clear hcz8_7
     try clear hcz8_8
     try clear hfz11_0
     try clear hfz11_1
     try clear hfz11_2
     try clear hfz11_3
     try clear hfz11_4
     try clear hfz11_5
     try clear hfz11_6
     try clear hfz11_7
     try clear hfz11_8
     try clear hfz7_0
     try clear hfz7_1
     try clear hfz7_2
     try clear hfz7_3
     try clear hfz7_4
     try clear hfz7_5
     try clear hfz7_6
     try clear hfz7_7
     try clear hfz7_8
     try clear hfz8_0
     try clear hfz8_1
     try clear hfz8_2
     try clear hfz8_3
     try clear hfz8_4
     try clear hfz8_5
     try clear hfz8_6
     try clear hfz8_7
     try clear hfz8_8
     try clear p2
     obtain ⟨kq, x16_9, rfl, HA, HJ9, BK117, HB⟩ := hcut
     cases kq with
     | zero => exact absurd HA.out (by simp [spec_GoodEntry.j1])
     | succ kj9 =>
      have H := HA.out; clear HA; simp only [spec_GoodEntry.j1] at H
      by_cases c13 : x16_9 = true
      ·subst c13
       have H1 : ((spec_GoodAgg.f kj9 a0_3 a0_4 a0_5 a0_6 l0_7 a0_8).bind fun t120 => (some t120)) = some r := by rw [if_pos rfl] at H; exact H
       clear H; have H := H1; clear H1; replace H := Option.bind_eq_some_iff.mp H; obtain ⟨t120, A140, H⟩ := H; (try dsimp only at H); have A14 := Aside0.mk A140; clear A140; obtain rfl := Option.some.inj H; obtain ⟨_, _, _, _, _, _, _, _, _⟩ := kc9 BK117.out; obtain ⟨_, _, _, _, _, _, _, _, _⟩ := kf9 BK117.out
       go_wp2_with (first | ((with_reducible refine gate_callee (f := 64) rfl ?_); refine gL (some 21) Try.func64 #[.agg #[.int .i64 a0_3, .int .i64 a0_4, .int .i64 a0_5, .int .i64 a0_6, .slice A0_7 l0_7.length c0_7, .bool a0_8]] ?_; (with_reducible refine (spec_GoodAgg.calls kj9 a0_3 a0_4 a0_5 a0_6 _ _ l0_7 a0_8 t120 _ ?side1 ?side2 A14.out).mono ?_); (case side1 => exact cK (Kd.C_below HR0_7.out HB.out)); (case side2 => exact HC0_7.out); rintro e w16 ⟨rfl, hb⟩; refine ⟨_, rfl, ?_⟩; have _ := mK (blk_below (bK BK117.out) hb); have _ := mK (below_step (bL HB.out) hb); clear BK117 HB; rename_i BK117 HB; (try clear hb); (try clear hb2); (try clear hk); (try clear hi)))
       go_ret
       exact ⟨sE, bL HB.out⟩
      ·replace c13 := Bool.eq_false_iff.mpr c13
       subst c13
       have H1 : (if a0_2 = 2 then ((spec_l5Zero.f a0_3 a0_4 a0_5 a0_6 l0_7 a0_8).bind fun t121 => (some t121)) else (some false)) = some r := by rw [if_neg (show ¬ (false = true) by decide)] at H; exact H
       clear H; have H := H1; clear H1
       by_cases c17 : a0_2 = 2
       ·rw [if_pos c17] at H
        have c17b0 : (a0_2 == 2) = true := beq_iff_eq.mpr c17; have c17b1 : (a0_2 != 2) = false := bne_eq_false_iff_eq.mpr c17; clear c17; replace H := Option.bind_eq_some_iff.mp H; obtain ⟨t121, A180, H⟩ := H; (try dsimp only at H); have A18 := Aside0.mk A180; clear A180; obtain rfl := Option.some.inj H; obtain ⟨hcz19_0, hcz19_1, hcz19_2, hcz19_3, hcz19_4, hcz19_5, hcz19_6, hcz19_7, hcz19_8⟩ := kc9 BK117.out; obtain ⟨hfz19_0, hfz19_1, hfz19_2, hfz19_3, hfz19_4, hfz19_5, hfz19_6, hfz19_7, hfz19_8⟩ := kf9 BK117.out
        go_wp2_with (first | ((with_reducible refine gate_callee (f := 65) rfl ?_); refine gL (some 26) Try.func65 #[.agg #[.int .i64 a0_3, .int .i64 a0_4, .int .i64 a0_5, .int .i64 a0_6, .slice A0_7 l0_7.length c0_7, .bool a0_8]] ?_; (with_reducible refine (spec_l5Zero.calls a0_3 a0_4 a0_5 a0_6 _ _ l0_7 a0_8 t121 _ ?side1 ?side2 A18.out).mono ?_); (case side1 => exact cK (Kd.C_below HR0_7.out HB.out)); (case side2 => exact HC0_7.out); rintro e w20 ⟨rfl, hb⟩; refine ⟨_, rfl, ?_⟩; have _ := mK (blk_below (bK BK117.out) hb); have _ := mK (below_step (bL HB.out) hb); clear BK117 HB; rename_i BK117 HB; (try clear hb); (try clear hb2); (try clear hk); (try clear hi)))
        go_ret
        exact ⟨sE, bL HB.out⟩
       ·rw [if_neg c17] at H
        have c17b0 : (a0_2 == 2) = false := beq_eq_false_iff_ne.mpr c17; have c17b1 : (a0_2 != 2) = true := bne_iff_ne.mpr c17; obtain rfl := Option.some.inj H
        go_wp2
        go_ret
        exact ⟨sE, bL HB.out⟩
/-! ### spec_l5Before: function 35 -/
def spec_l5Before.f (a0_0 : ByteArray) (a0_1 : Int) (a0_2 : Int) (a0_3 : Int) (a0_4 : Int) (a0_5 : Int) (a0_6 : Int) (l0_7 : List Int) (a0_8 : Bool) (a1_0 : ByteArray) (a1_1 : Int) (a1_2 : Int) (a1_3 : Int) (a1_4 : Int) (a1_5 : Int) (a1_6 : Int) (l1_7 : List Int) (a1_8 : Bool) : Option (Bool) := if (Op.bytesLess a0_0.toList a1_0.toList) = true then (some true) else (if a0_0.toList = a1_0.toList then (some (decide (a0_1 > a1_1))) else (some false))
set_option maxHeartbeats 8000000 in
set_option maxRecDepth 100000 in
theorem spec_l5Before.calls (a0_0 : ByteArray) (a0_1 : Int) (a0_2 : Int) (a0_3 : Int) (a0_4 : Int) (a0_5 : Int) (a0_6 : Int) (A0_7 : Option Addr) (c0_7 : Nat) (l0_7 : List Int) (a0_8 : Bool) (a1_0 : ByteArray) (a1_1 : Int) (a1_2 : Int) (a1_3 : Int) (a1_4 : Int) (a1_5 : Int) (a1_6 : Int) (A1_7 : Option Addr) (c1_7 : Nat) (l1_7 : List Int) (a1_8 : Bool) (r : Bool) (w : World) (hr0_7 : Kd.C (Kd.int .i64) w A0_7 l0_7.length l0_7) (hc0_7 : l0_7.length ≤ c0_7) (hr1_7 : Kd.C (Kd.int .i64) w A1_7 l1_7.length l1_7) (hc1_7 : l1_7.length ≤ c1_7) (h : spec_l5Before.f a0_0 a0_1 a0_2 a0_3 a0_4 a0_5 a0_6 l0_7 a0_8 a1_0 a1_1 a1_2 a1_3 a1_4 a1_5 a1_6 l1_7 a1_8 = some r) :
  Calls Try.prog 35 #[.agg #[.string a0_0, .int .i64 a0_1, .int .i64 a0_2, .int .i64 a0_3, .int .i64 a0_4, .int .i64 a0_5, .int .i64 a0_6, .slice A0_7 l0_7.length c0_7, .bool a0_8], .agg #[.string a1_0, .int .i64 a1_1, .int .i64 a1_2, .int .i64 a1_3, .int .i64 a1_4, .int .i64 a1_5, .int .i64 a1_6, .slice A1_7 l1_7.length c1_7, .bool a1_8]] w fun e w' => e = .returned (.bool r) ∧ Below w.heap.size w w' := by
 have hu51 := Try.underlying51
 have HR0_7 := Aside0.mk hr0_7
 have HC0_7 := Aside0.mk hc0_7
 clear hr0_7 hc0_7
 have HR1_7 := Aside0.mk hr1_7
 have HC1_7 := Aside0.mk hc1_7
 clear hr1_7 hc1_7
 have HB := mK (Below.refl w.heap.size w)
 have H : (if (Op.bytesLess a0_0.toList a1_0.toList) = true then (some true) else (if a0_0.toList = a1_0.toList then (some (decide (a0_1 > a1_1))) else (some false))) = some r := h
 clear h
 by_cases c3 : (Op.bytesLess a0_0.toList a1_0.toList) = true
 ·rw [if_pos c3] at H
  have c3b0 : (Op.bytesLess a0_0.toList a1_0.toList) = true := c3; clear c3; obtain rfl := Option.some.inj H
  go_enter Try.func35, Try.ntmps35
  go_wp2_with (first | ((with_reducible refine gate_dst (N := 2) rfl ?_); refine box_event ?hg (N := 2) ?hd (cs := #[.string a0_0, .int .i64 a0_1, .int .i64 a0_2, .int .i64 a0_3, .int .i64 a0_4, .int .i64 a0_5, .int .i64 a0_6, .slice A0_7 l0_7.length c0_7, .bool a0_8]) (t := 51) ?hr ?_; (case hd => rfl); (case hg => rfl); (case hr => first | (go_simp; done) | (go_simp; rfl)); intro gb122 hg w4 hbox hb; have _ := mK (below_step (bL HB.out) hb); have _ := mK (hbox); have _ := mK (sL hg (bL HB.out)); have _ := mK (sL hg (bL HB.out)); clear HB; rename_i HB BK122 GW122 GE122; clear hb hbox hg) | ((with_reducible refine gate_dst (N := 3) rfl ?_); refine box_event ?hg (N := 3) ?hd (cs := #[.string a1_0, .int .i64 a1_1, .int .i64 a1_2, .int .i64 a1_3, .int .i64 a1_4, .int .i64 a1_5, .int .i64 a1_6, .slice A1_7 l1_7.length c1_7, .bool a1_8]) (t := 51) ?hr ?_; (case hd => rfl); (case hg => rfl); (case hr => first | (go_simp; done) | (go_simp; rfl)); intro gb123 hg w5 hbox hb; have _ := mK (blk_below (bK BK122.out) hb); have _ := mK (below_step (bL HB.out) hb); have _ := mK (hbox); have _ := mK (sL hg (bL HB.out)); have _ := mK (sL hg (bL HB.out)); have _ := mK (nL hg (bK BK122.out)); have _ := mK (nR hg (bK BK122.out)); clear BK122 HB; rename_i BK122 HB BK123 GW123 GE123 NB122_123 NB123_122; clear hb hbox hg; have hnb6 := NB122_123.out; have hnc6 := NB123_122.out; obtain ⟨hcz7_0, hcz7_1, hcz7_2, hcz7_3, hcz7_4, hcz7_5, hcz7_6, hcz7_7, hcz7_8⟩ := kc9 BK122.out; obtain ⟨hfz7_0, hfz7_1, hfz7_2, hfz7_3, hfz7_4, hfz7_5, hfz7_6, hfz7_7, hfz7_8⟩ := kf9 BK122.out; obtain ⟨hcz8_0, hcz8_1, hcz8_2, hcz8_3, hcz8_4, hcz8_5, hcz8_6, hcz8_7, hcz8_8⟩ := kc9 BK123.out; obtain ⟨hfz8_0, hfz8_1, hfz8_2, hfz8_3, hfz8_4, hfz8_5, hfz8_6, hfz8_7, hfz8_8⟩ := kf9 BK123.out))
  go_ret
  exact ⟨sE, bL HB.out⟩
 ·rw [if_neg c3] at H
  have c3b0 : (Op.bytesLess a0_0.toList a1_0.toList) = false := by simpa using c3
  clear c3
  by_cases c9 : a0_0.toList = a1_0.toList
  ·rw [if_pos c9] at H
   have c9b0 : (a0_0.toList == a1_0.toList) = true := beq_iff_eq.mpr c9; have c9b1 : (a0_0.toList != a1_0.toList) = false := bne_eq_false_iff_eq.mpr c9; clear c9; obtain rfl := Option.some.inj H
   go_enter Try.func35, Try.ntmps35
   go_wp2_with (first | ((with_reducible refine gate_dst (N := 2) rfl ?_); refine box_event ?hg (N := 2) ?hd (cs := #[.string a0_0, .int .i64 a0_1, .int .i64 a0_2, .int .i64 a0_3, .int .i64 a0_4, .int .i64 a0_5, .int .i64 a0_6, .slice A0_7 l0_7.length c0_7, .bool a0_8]) (t := 51) ?hr ?_; (case hd => rfl); (case hg => rfl); (case hr => first | (go_simp; done) | (go_simp; rfl)); intro gb122 hg w10 hbox hb; have _ := mK (below_step (bL HB.out) hb); have _ := mK (hbox); have _ := mK (sL hg (bL HB.out)); have _ := mK (sL hg (bL HB.out)); clear HB; rename_i HB BK122 GW122 GE122; clear hb hbox hg) | ((with_reducible refine gate_dst (N := 3) rfl ?_); refine box_event ?hg (N := 3) ?hd (cs := #[.string a1_0, .int .i64 a1_1, .int .i64 a1_2, .int .i64 a1_3, .int .i64 a1_4, .int .i64 a1_5, .int .i64 a1_6, .slice A1_7 l1_7.length c1_7, .bool a1_8]) (t := 51) ?hr ?_; (case hd => rfl); (case hg => rfl); (case hr => first | (go_simp; done) | (go_simp; rfl)); intro gb123 hg w11 hbox hb; have _ := mK (blk_below (bK BK122.out) hb); have _ := mK (below_step (bL HB.out) hb); have _ := mK (hbox); have _ := mK (sL hg (bL HB.out)); have _ := mK (sL hg (bL HB.out)); have _ := mK (nL hg (bK BK122.out)); have _ := mK (nR hg (bK BK122.out)); clear BK122 HB; rename_i BK122 HB BK123 GW123 GE123 NB122_123 NB123_122; clear hb hbox hg; have hnb12 := NB122_123.out; have hnc12 := NB123_122.out; obtain ⟨_, _, _, _, _, _, _, _, _⟩ := kc9 BK122.out; obtain ⟨_, _, _, _, _, _, _, _, _⟩ := kf9 BK122.out; obtain ⟨hcz14_0, hcz14_1, hcz14_2, hcz14_3, hcz14_4, hcz14_5, _, _, _⟩ := kc9 BK123.out; obtain ⟨hfz14_0, hfz14_1, hfz14_2, hfz14_3, hfz14_4, hfz14_5, _, _, _⟩ := kf9 BK123.out))
   go_ret
   exact ⟨sE, bL HB.out⟩
  ·rw [if_neg c9] at H
   have c9b0 : (a0_0.toList == a1_0.toList) = false := beq_eq_false_iff_ne.mpr c9; have c9b1 : (a0_0.toList != a1_0.toList) = true := bne_iff_ne.mpr c9; obtain rfl := Option.some.inj H
   go_enter Try.func35, Try.ntmps35
   go_wp2_with (first | ((with_reducible refine gate_dst (N := 2) rfl ?_); refine box_event ?hg (N := 2) ?hd (cs := #[.string a0_0, .int .i64 a0_1, .int .i64 a0_2, .int .i64 a0_3, .int .i64 a0_4, .int .i64 a0_5, .int .i64 a0_6, .slice A0_7 l0_7.length c0_7, .bool a0_8]) (t := 51) ?hr ?_; (case hd => rfl); (case hg => rfl); (case hr => first | (go_simp; done) | (go_simp; rfl)); intro gb122 hg w15 hbox hb; have _ := mK (below_step (bL HB.out) hb); have _ := mK (hbox); have _ := mK (sL hg (bL HB.out)); have _ := mK (sL hg (bL HB.out)); clear HB; rename_i HB BK122 GW122 GE122; clear hb hbox hg) | ((with_reducible refine gate_dst (N := 3) rfl ?_); refine box_event ?hg (N := 3) ?hd (cs := #[.string a1_0, .int .i64 a1_1, .int .i64 a1_2, .int .i64 a1_3, .int .i64 a1_4, .int .i64 a1_5, .int .i64 a1_6, .slice A1_7 l1_7.length c1_7, .bool a1_8]) (t := 51) ?hr ?_; (case hd => rfl); (case hg => rfl); (case hr => first | (go_simp; done) | (go_simp; rfl)); intro gb123 hg w16 hbox hb; have _ := mK (blk_below (bK BK122.out) hb); have _ := mK (below_step (bL HB.out) hb); have _ := mK (hbox); have _ := mK (sL hg (bL HB.out)); have _ := mK (sL hg (bL HB.out)); have _ := mK (nL hg (bK BK122.out)); have _ := mK (nR hg (bK BK122.out)); clear BK122 HB; rename_i BK122 HB BK123 GW123 GE123 NB122_123 NB123_122; clear hb hbox hg; have hnb17 := NB122_123.out; have hnc17 := NB123_122.out; obtain ⟨hcz18_0, hcz18_1, hcz18_2, hcz18_3, hcz18_4, hcz18_5, _, _, _⟩ := kc9 BK122.out; obtain ⟨hfz18_0, hfz18_1, hfz18_2, hfz18_3, hfz18_4, hfz18_5, _, _, _⟩ := kf9 BK122.out; obtain ⟨hcz19_0, hcz19_1, hcz19_2, hcz19_3, hcz19_4, hcz19_5, hcz19_6, hcz19_7, hcz19_8⟩ := kc9 BK123.out; obtain ⟨hfz19_0, hfz19_1, hfz19_2, hfz19_3, hfz19_4, hfz19_5, hfz19_6, hfz19_7, hfz19_8⟩ := kf9 BK123.out))
   go_ret
   exact ⟨sE, bL HB.out⟩
/-! ### spec_GoodEntries: function 22, by hand -/
def spec_GoodEntries.nod (s : List Int) : Nat → Nat → Bool
 | 0, _ => true
 | d + 1, i => !((s.take i).contains (rd s (i : Int))) && spec_GoodEntries.nod s d (i + 1)
def spec_GoodEntries.g (k : Nat) (x : (S51)) : Option Bool := spec_GoodEntry.f k x.f0 x.f1 x.f2 x.f3.f0 x.f3.f1 x.f3.f2 x.f3.f3 x.f3.f4 x.f3.f5
def spec_GoodEntries.bf (k : Nat) (x y : (S51)) : Option Bool := spec_l5Before.f x.f0 x.f1 x.f2 x.f3.f0 x.f3.f1 x.f3.f2 x.f3.f3 x.f3.f4 x.f3.f5 y.f0 y.f1 y.f2 y.f3.f0 y.f3.f1 y.f3.f2 y.f3.f3 y.f3.f4 y.f3.f5
def spec_GoodEntries.ok (k : Nat) (l : List (S51)) (j : Nat) : Option Bool := (spec_GoodEntries.g k (rd_T51 l (j : Int))).bind fun t => if t = true then (if j = 0 then some true else spec_GoodEntries.bf k (rd_T51 l ((j - 1 : Nat) : Int)) (rd_T51 l (j : Int))) else some false
def spec_GoodEntries.fin (k : Nat) (s : List Int) : Option Bool := some (spec_GoodEntries.nod s s.length 0)
def spec_GoodEntries.scan (k : Nat) (l : List (S51)) : Nat → Nat → Option Bool
 | 0, _ => spec_GoodEntries.fin k (l.map fun x => x.f1)
 | d + 1, j => (spec_GoodEntries.ok k l j).bind fun t => if t = true then spec_GoodEntries.scan k l d (j + 1) else some false
def spec_GoodEntries.f (k : Nat) (l0 : List (S51)) : Option Bool := if l0.length ≤ 1048576 then spec_GoodEntries.scan k l0 l0.length 0 else none
theorem spec_GoodEntries.take {l : List (S51)} {j : Nat} (h : j < l.length) : (l.map fun x => x.f1).take j ++ [(rd_T51 l (j : Int)).f1] = (l.map fun x => x.f1).take (j + 1) := by
 rw [List.take_succ_eq_append_getElem (by simpa using h)]
 congr 2
 simp [rd_T51, h]
section
set_option maxHeartbeats 8000000 in
set_option maxRecDepth 100000 in
theorem spec_GoodEntries.calls (k : Nat) (A0_ : Option Addr) (c0 : Nat) (l0 : List (S51)) (r : Bool) (w : World) (hr0 : Kd.C k51 w A0_ l0.length l0) (hc0 : l0.length ≤ c0) (h : spec_GoodEntries.f k l0 = some r) :
  Calls Try.prog 22 #[.slice A0_ l0.length c0] w fun e w' => e = .returned (.bool r) ∧ Below w.heap.size w w' := by
 unfold spec_GoodEntries.f at h
 by_cases hl : l0.length ≤ 1048576
 case neg => rw [if_neg hl] at h; cases h
 rw [if_pos hl] at h
 have HR0 := Aside0.mk hr0
 have H := Aside0.mk h
 have HL := Aside0.mk hl
 have HB := A0 (Below.refl w.heap.size w)
 clear hr0 hc0 h hl
 go_enter Try.func22, Try.ntmps22
 go_wp2
 go_loopg [3, 12] l0.length (fun gg v3 v12 w' => ∃ (j c : Nat) (A : Option Addr) (q : List Int), j ≤ l0.length ∧ l0.length - j ≤ gg ∧ v3 = .slice A q.length c ∧ v12 = .int .i64 (j : Nat) ∧ Aside0 (q = (l0.map fun x => x.f1).take j) ∧ Aside0 (spec_GoodEntries.scan k l0 (l0.length - j) j = some r) ∧ Aside0 (Kd.R (Kd.int .i64) 3 w' w.heap.size (fun _ => True) v3 q) ∧ Aside0 (Below w.heap.size w w'))
 case atStart => exact ⟨0, 0, none, [], by omega, by omega, rfl, rfl, ⟨by simp⟩, ⟨H.out⟩, ⟨Kd.R_nil _ _ _ _ _⟩, ⟨HB.out⟩⟩
 case round =>
  clear H HB; (try clear O); obtain ⟨j, c, A, q, hj, hg, rfl, rfl, HQ, HS, O, HB⟩ := hrel; have hl := HL.out; have hs := HS.out; clear HS
  by_cases hlt : j < l0.length
  ·rw [show l0.length - j = (l0.length - (j + 1)) + 1 by omega] at hs
   unfold spec_GoodEntries.scan at hs
   obtain ⟨t, ht, hs⟩ := Option.bind_eq_some_iff.mp hs
   unfold spec_GoodEntries.ok at ht
   obtain ⟨tg, htg, ht⟩ := Option.bind_eq_some_iff.mp ht; obtain ⟨ad, A7, c7, ead, hx0, hx1, hx2, hx3, hx4, hx5, hx6, hx7, hx8, hl7, hi7⟩ := at_T51B HR0.out HB.out (j : Int) (by omega) (by omega)
   cases ead
   rw [Int.toNat_natCast] at hx0 hx1 hx2 hx3 hx4 hx5 hx6 hx7 hx8; have hqn := spec_GoodEntries.take hlt; rw [← HQ.out] at hqn; have hqq := mK (show q.length = j by rw [HQ.out, List.length_take, List.length_map]; omega); generalize rd_T51 l0 (j : Int) = x at ht htg hqn hx0 hx1 hx2 hx3 hx4 hx5 hx6 hx7 hx8 hl7 hi7; replace hqn := Aside0.mk hqn; have HG := Aside0.mk htg; have HL7 := Aside0.mk hl7; have HI := Aside0.mk hi7; clear htg hl7 hi7
   have hjl : (j : Int) < (l0.length : Int) := by omega
   have hw2 : IntKind.i64.wrap ((j : Int) + 1) = (j : Int) + 1 := by rw [i64_w]; unfold wrap64; omega
   go_wp2_with (first | ((with_reducible refine gate_dst (N := 5) rfl ?_); (try (refine gate_guard (by rfl) ?_; dsimp only)); refine box_event ?hg (N := 5) ?hd (cs := #[.string (⟨#[]⟩ : ByteArray), .int .i64 0, .int .i64 0, .int .i64 0, .int .i64 0, .int .i64 0, .int .i64 0, .slice none 0 0, .bool false]) (t := 51) ?hr ?_; (case hd => rfl); (case hg => rfl); (case hr => first | (go_simp; done) | (go_simp; rfl)); intro gb hg_ w6 hbox hb; have O6 := A0 (Kd.R_below O.out hb); have HB6 := A0 (below_step HB.out hb); have GE := A0 (show w.heap.size ≤ gb by rw [hg_]; exact HB.out.size); have BK := A0 hbox; clear O HB hg_ hbox hb; obtain ⟨_, _, _, _, _, _, _, _, _⟩ := kc9 BK.out; obtain ⟨_, _, _, _, _, _, _, _, _⟩ := kf9 BK.out) | ((with_reducible refine gate_store (t := 51) (p := 5) rfl ?_); refine store_event (t := 51) (p := 5) (v := ?vo) (w1 := ((((((((w6.setCell ⟨gb, 0, none⟩ (.string x.f0)).setCell ⟨gb, 1, none⟩ (.int .i64 x.f1)).setCell ⟨gb, 2, none⟩ (.int .i64 x.f2)).setCell ⟨gb, 3, none⟩ (.int .i64 x.f3.f0)).setCell ⟨gb, 4, none⟩ (.int .i64 x.f3.f1)).setCell ⟨gb, 5, none⟩ (.int .i64 x.f3.f2)).setCell ⟨gb, 6, none⟩ (.int .i64 x.f3.f3)).setCell ⟨gb, 7, none⟩ (.slice A7 x.f3.f4.length c7)).setCell ⟨gb, 8, none⟩ (.bool x.f3.f5)) ?hg ?ho ?hn ?hr ?_; (case ho => rfl); (case hg => rfl); (case hn => rfl); (case hr => first | (go_simp; done) | (go_simp; rfl)); intro w7 hw; have O7 := A0 (show Kd.R (Kd.int .i64) 3 w7 w.heap.size (fun _ => True) (.slice A q.length c) q by rw [hw]; exact On.nine.Rt O6.out BK.out (by decide)); have HB7 := A0 (show Below w.heap.size w w7 by rw [hw]; exact On.nine.below HB6.out GE.out); have BK7 := A0 (show w7.heap[gb]? = some (.cells #[.string x.f0, .int .i64 x.f1, .int .i64 x.f2, .int .i64 x.f3.f0, .int .i64 x.f3.f1, .int .i64 x.f3.f2, .int .i64 x.f3.f3, .slice A7 x.f3.f4.length c7, .bool x.f3.f5] 51 (0, 0)) by rw [hw]; exact p9 BK.out); clear O6 HB6 BK hw))
   have cx := Later.nine BK7.out; obtain ⟨cx0, cx1, cx2, cx3, cx4, cx5, cx6, cx7, cx8⟩ := cx
   cases tg with
   | false =>
    rw [if_neg (by simp)] at ht; obtain rfl := Option.some.inj ht; rw [if_neg (by simp)] at hs; obtain rfl := Option.some.inj hs; (refine quietLater (by kernel_rfl) (by kernel_rfl) ?_; (repeat (go_big_quiet_step (first | (go_at_call 34; rename_i n; exact Later.call (spec_GoodEntry.calls k x.f0 x.f1 x.f2 x.f3.f0 x.f3.f1 x.f3.f2 x.f3.f3 _ _ x.f3.f4 x.f3.f5 _ _ (Kd.C_below HI.out (below_step HB7.out n.bel)) HL7.out HG.out)) | (go_at_call 35; rename_i n; exact Later.call (spec_l5Before.calls y.f0 y.f1 y.f2 y.f3.f0 y.f3.f1 y.f3.f2 y.f3.f3 _ _ y.f3.f4 y.f3.f5 x.f0 x.f1 x.f2 x.f3.f0 x.f3.f1 x.f3.f2 x.f3.f3 _ _ x.f3.f4 x.f3.f5 _ _ (Kd.C_below HJ.out (below_step HB7.out n.bel)) HM7.out (Kd.C_below HI.out (below_step HB7.out n.bel)) HL7.out HBF.out))))); refine wpQuiet_nil ?_; intro _ hw_; obtain ⟨nq, rfl⟩ := hw_; have O := A0 (Kd.R_below O7.out nq.bel); have HB := A0 (below_step HB7.out nq.bel); have BK := A0 (blk_below BK7.out nq.bel); clear O7 HB7 BK7; obtain ⟨_, _, _, _, _, _, _, _, _⟩ := kc9 BK.out)
    go_wp2
    go_ret
    exact ⟨rfl, HB.out⟩
   | true =>
    rw [if_pos rfl] at ht
    by_cases hj0 : j = 0
    ·rw [if_pos hj0] at ht
     obtain rfl := Option.some.inj ht; rw [if_pos rfl] at hs; have hjb : decide (0 < j) = false := decide_eq_false (by omega); clear hj0; (refine quietLater (by kernel_rfl) (by kernel_rfl) ?_; (repeat (go_big_quiet_step (first | (go_at_call 34; rename_i n; exact Later.call (spec_GoodEntry.calls k x.f0 x.f1 x.f2 x.f3.f0 x.f3.f1 x.f3.f2 x.f3.f3 _ _ x.f3.f4 x.f3.f5 _ _ (Kd.C_below HI.out (below_step HB7.out n.bel)) HL7.out HG.out)) | (go_at_call 35; rename_i n; exact Later.call (spec_l5Before.calls y.f0 y.f1 y.f2 y.f3.f0 y.f3.f1 y.f3.f2 y.f3.f3 _ _ y.f3.f4 y.f3.f5 x.f0 x.f1 x.f2 x.f3.f0 x.f3.f1 x.f3.f2 x.f3.f3 _ _ x.f3.f4 x.f3.f5 _ _ (Kd.C_below HJ.out (below_step HB7.out n.bel)) HM7.out (Kd.C_below HI.out (below_step HB7.out n.bel)) HL7.out HBF.out))))); refine wpQuiet_nil ?_; intro _ hw_; obtain ⟨nq, rfl⟩ := hw_; have O := A0 (Kd.R_below O7.out nq.bel); have HB := A0 (below_step HB7.out nq.bel); have BK := A0 (blk_below BK7.out nq.bel); clear O7 HB7 BK7; obtain ⟨_, _, _, _, _, _, _, _, _⟩ := kc9 BK.out)
     go_wp2_with (first | ((with_reducible refine gate_builtin (b := .append) (xs := #[.tmp 34, .tmp 37]) rfl ?_); at_builtin; refine Kd.R_append (Kd.int .i64) (w0 := w) w.heap.size rfl (.tmp 34) (.tmp 37) 41 3 (.int .i64 0) 8 rfl Try.underlying41 info3 rfl (by decide) (by omega) (.slice A q.length c) q x.f1 [.int .i64 x.f1] (fun _ => True) (fun _ => False) rfl rfl ?aP (fun _ hk => hk.elim) ?aF ?aO ?aB ?aS ?aL ?_; (case aP => exact rfl); (case aB => exact HB.out); (case aF => exact (fun _ _ => trivial)); (case aO => exact O.out); (case aS => exact HB.out.size); (case aL => have h_ := hqq.out; omega); intro v20 w21 ho hb hg_ hat; clear O HB; have O := A0 ho; have HB := A0 hb; clear ho hb hg_ hat))
     obtain ⟨A2, c2_, e2_⟩ := Kd.R_slice O.out; subst e2_
     go_roundg (l0.length - (j + 1))
     case measure => omega
     case rel => exact ⟨j + 1, c2_, A2, _, by omega, by omega, rfl, (by (try rw [hw2]); congr 1), ⟨hqn.out⟩, ⟨hs⟩, ⟨O.out⟩, ⟨HB.out⟩⟩
    ·rw [if_neg hj0] at ht
     have hjb : decide (0 < j) = true := decide_eq_true (by omega)
     have hw1 : IntKind.i64.wrap ((j : Int) - 1) = ((j - 1 : Nat) : Int) := by rw [i64_w]; unfold wrap64; omega
     have hjp : j - 1 < l0.length := by omega
     obtain ⟨ad2, B7, d7, ead2, hy0, hy1, hy2, hy3, hy4, hy5, hy6, hy7, hy8, hm7, hj7⟩ := at_T51 HR0.out ((j - 1 : Nat) : Int) (by omega) (by omega); obtain rfl : ad = ad2 := (by injection ead2); rw [Int.toNat_natCast] at hy0 hy1 hy2 hy3 hy4 hy5 hy6 hy7 hy8; generalize rd_T51 l0 ((j - 1 : Nat) : Int) = y at ht hy0 hy1 hy2 hy3 hy4 hy5 hy6 hy7 hy8 hm7 hj7; have HM7 := Aside0.mk hm7; have HJ := Aside0.mk hj7; clear hm7 hj7
     cases t with
     | false =>
      obtain rfl := Option.some.inj hs; have HBF := Aside0.mk ht; clear ht
      have cy0 := Later.cell HB7.out hy0; have cy1 := Later.cell HB7.out hy1; have cy2 := Later.cell HB7.out hy2; have cy3 := Later.cell HB7.out hy3; have cy4 := Later.cell HB7.out hy4; have cy5 := Later.cell HB7.out hy5; have cy6 := Later.cell HB7.out hy6; have cy7 := Later.cell HB7.out hy7; have cy8 := Later.cell HB7.out hy8
      (refine quietLater (by kernel_rfl) (by kernel_rfl) ?_; (repeat (go_big_quiet_step (first | (go_at_call 34; rename_i n; exact Later.call (spec_GoodEntry.calls k x.f0 x.f1 x.f2 x.f3.f0 x.f3.f1 x.f3.f2 x.f3.f3 _ _ x.f3.f4 x.f3.f5 _ _ (Kd.C_below HI.out (below_step HB7.out n.bel)) HL7.out HG.out)) | (go_at_call 35; rename_i n; exact Later.call (spec_l5Before.calls y.f0 y.f1 y.f2 y.f3.f0 y.f3.f1 y.f3.f2 y.f3.f3 _ _ y.f3.f4 y.f3.f5 x.f0 x.f1 x.f2 x.f3.f0 x.f3.f1 x.f3.f2 x.f3.f3 _ _ x.f3.f4 x.f3.f5 _ _ (Kd.C_below HJ.out (below_step HB7.out n.bel)) HM7.out (Kd.C_below HI.out (below_step HB7.out n.bel)) HL7.out HBF.out))))); refine wpQuiet_nil ?_; intro _ hw_; obtain ⟨nq, rfl⟩ := hw_; have O := A0 (Kd.R_below O7.out nq.bel); have HB := A0 (below_step HB7.out nq.bel); have BK := A0 (blk_below BK7.out nq.bel); clear O7 HB7 BK7; obtain ⟨_, _, _, _, _, _, _, _, _⟩ := kc9 BK.out)
      go_wp2
      go_ret
      exact ⟨rfl, HB.out⟩
     | true =>
      have HBF := Aside0.mk ht; clear ht
      have cy0 := Later.cell HB7.out hy0; have cy1 := Later.cell HB7.out hy1; have cy2 := Later.cell HB7.out hy2; have cy3 := Later.cell HB7.out hy3; have cy4 := Later.cell HB7.out hy4; have cy5 := Later.cell HB7.out hy5; have cy6 := Later.cell HB7.out hy6; have cy7 := Later.cell HB7.out hy7; have cy8 := Later.cell HB7.out hy8
      (refine quietLater (by kernel_rfl) (by kernel_rfl) ?_; (repeat (go_big_quiet_step (first | (go_at_call 34; rename_i n; exact Later.call (spec_GoodEntry.calls k x.f0 x.f1 x.f2 x.f3.f0 x.f3.f1 x.f3.f2 x.f3.f3 _ _ x.f3.f4 x.f3.f5 _ _ (Kd.C_below HI.out (below_step HB7.out n.bel)) HL7.out HG.out)) | (go_at_call 35; rename_i n; exact Later.call (spec_l5Before.calls y.f0 y.f1 y.f2 y.f3.f0 y.f3.f1 y.f3.f2 y.f3.f3 _ _ y.f3.f4 y.f3.f5 x.f0 x.f1 x.f2 x.f3.f0 x.f3.f1 x.f3.f2 x.f3.f3 _ _ x.f3.f4 x.f3.f5 _ _ (Kd.C_below HJ.out (below_step HB7.out n.bel)) HM7.out (Kd.C_below HI.out (below_step HB7.out n.bel)) HL7.out HBF.out))))); refine wpQuiet_nil ?_; intro _ hw_; obtain ⟨nq, rfl⟩ := hw_; have O := A0 (Kd.R_below O7.out nq.bel); have HB := A0 (below_step HB7.out nq.bel); have BK := A0 (blk_below BK7.out nq.bel); clear O7 HB7 BK7; obtain ⟨_, _, _, _, _, _, _, _, _⟩ := kc9 BK.out)
      go_wp2_with (first | ((with_reducible refine gate_builtin (b := .append) (xs := #[.tmp 34, .tmp 37]) rfl ?_); at_builtin; refine Kd.R_append (Kd.int .i64) (w0 := w) w.heap.size rfl (.tmp 34) (.tmp 37) 41 3 (.int .i64 0) 8 rfl Try.underlying41 info3 rfl (by decide) (by omega) (.slice A q.length c) q x.f1 [.int .i64 x.f1] (fun _ => True) (fun _ => False) rfl rfl ?aP (fun _ hk => hk.elim) ?aF ?aO ?aB ?aS ?aL ?_; (case aP => exact rfl); (case aB => exact HB.out); (case aF => exact (fun _ _ => trivial)); (case aO => exact O.out); (case aS => exact HB.out.size); (case aL => have h_ := hqq.out; omega); intro v20 w21 ho hb hg_ hat; clear O HB; have O := A0 ho; have HB := A0 hb; clear ho hb hg_ hat))
      obtain ⟨A2, c2_, e2_⟩ := Kd.R_slice O.out; subst e2_
      go_roundg (l0.length - (j + 1))
      case measure => omega
      case rel => exact ⟨j + 1, c2_, A2, _, by omega, by omega, rfl, (by (try rw [hw2]); congr 1), ⟨hqn.out⟩, ⟨hs⟩, ⟨O.out⟩, ⟨HB.out⟩⟩
  ·obtain rfl : j = l0.length := by omega
   rw [Nat.sub_self] at hs
   unfold spec_GoodEntries.scan spec_GoodEntries.fin at hs
   have hq0 := HQ.out; rw [List.take_of_length_le (by simp)] at hq0; replace HQ := Aside0.mk hq0
   have hqb : q.length ≤ 1048576 := by rw [hq0, List.length_map]; exact hl
   clear hq0 hlt hj hg; have hr := Option.some.inj hs; rw [← HQ.out] at hr; have HN := Aside0.mk hr; clear hr hs HQ
   go_wp2
   go_loopg [42] q.length (fun gg v42 w' => ∃ i : Nat, i ≤ q.length ∧ q.length - i ≤ gg ∧ v42 = .int .i64 (i : Nat) ∧ Aside0 (spec_GoodEntries.nod q (q.length - i) i = r) ∧ Aside0 (Kd.R (Kd.int .i64) 3 w' w.heap.size (fun _ => True) (.slice A q.length c) q) ∧ Aside0 (Below w.heap.size w w'))
   case atStart => exact ⟨0, by omega, by omega, rfl, ⟨HN.out⟩, ⟨O.out⟩, ⟨HB.out⟩⟩
   case round =>
    clear HN O HB; obtain ⟨i, hi, hgi, rfl, HN, O, HB⟩ := hrel; have hcap := (Kd.R_reads' O.out).2.1
    by_cases hil : i < q.length
    case neg =>
     have hn := HN.out; rw [show q.length - i = 0 by omega] at hn
     unfold spec_GoodEntries.nod at hn
     subst hn
     go_wp2
     go_ret
     exact ⟨rfl, HB.out⟩
    obtain ⟨aq, eaq, hq0⟩ := Kd.at_int (Kd.R_reads' O.out).2.2 (i : Int) (by omega) (by omega); subst eaq; rw [Int.toNat_natCast] at hq0; have hn := HN.out; rw [show q.length - i = (q.length - (i + 1)) + 1 by omega] at hn
    unfold spec_GoodEntries.nod at hn
    have hic : (i : Int) ≤ (c : Int) := by omega
    have hwi : IntKind.i64.wrap ((i : Int) + 1) = (i : Int) + 1 := by rw [i64_w]; unfold wrap64; omega
    have hil2 : (i : Int) ≤ (q.length : Int) := by omega
    go_wp2
    go_loopg [51] i (fun gg v51 w' => ∃ m : Nat, m ≤ i ∧ i - m ≤ gg ∧ v51 = .int .i64 (m : Nat) ∧ Aside0 ((q.take m).contains (rd q (i : Int)) = false) ∧ Aside0 (Kd.R (Kd.int .i64) 3 w' w.heap.size (fun _ => True) (.slice (some aq) q.length c) q) ∧ Aside0 (Below w.heap.size w w'))
    case atStart => exact ⟨0, by omega, by omega, rfl, ⟨by simp⟩, ⟨O.out⟩, ⟨HB.out⟩⟩
    case round =>
     clear O HB hq0; obtain ⟨m, hm, hgm, rfl, HM, O, HB⟩ := hrel
     by_cases hmi : m < i
     ·obtain ⟨aq2, eaq2, hq0⟩ := Kd.at_int (Kd.R_reads' O.out).2.2 (m : Int) (by omega) (by omega)
      obtain rfl : aq = aq2 := (by injection eaq2); rw [Int.toNat_natCast] at hq0
      have htk : (q.take (m + 1)).contains (rd q (i : Int)) = (rd q (i : Int) == rd q (m : Int)) := by
       have hml : m < q.length := by omega
       have h1 := HM.out; rw [List.take_succ_eq_append_getElem hml, List.contains_eq_any_beq, List.any_append]; rw [List.contains_eq_any_beq] at h1; rw [h1]
       simp [rd, hml]
      have hwm : IntKind.i64.wrap ((m : Int) + 1) = (m : Int) + 1 := by rw [i64_w]; unfold wrap64; omega
      by_cases he : rd q (m : Int) = rd q (i : Int)
      ·have heb : (rd q (m : Int) == rd q (i : Int)) = true := beq_iff_eq.mpr he
       have hr : r = false := by
        rw [← hn]
        have h1 : (q.take i).contains (rd q (i : Int)) = true := by
         rw [List.contains_iff_mem]; have h2 := htk.trans (beq_iff_eq.mpr he.symm); rw [List.contains_iff_mem] at h2; exact (List.take_subset_take_left q (show m + 1 ≤ i by omega)) h2
        rw [h1]; rfl
       subst hr
       go_wp2
       go_ret
       exact ⟨rfl, HB.out⟩
      ·have heb : (rd q (m : Int) == rd q (i : Int)) = false := beq_eq_false_iff_ne.mpr he
       go_wp2
       go_roundg (i - (m + 1))
       case measure => omega
       case rel => exact ⟨m + 1, by omega, by omega, (by (try rw [hwm]); congr 1), ⟨htk.trans (beq_eq_false_iff_ne.mpr fun e => he e.symm)⟩, ⟨O.out⟩, ⟨HB.out⟩⟩
     ·obtain rfl : m = i := by omega
      rw [HM.out] at hn
      go_wp2
      go_roundg (q.length - (m + 1))
      case measure => omega
      case rel => exact ⟨m + 1, by omega, by omega, (by (try rw [hwi]); congr 1), ⟨hn⟩, ⟨O.out⟩, ⟨HB.out⟩⟩
end
/-! ### spec_PutVar: function 37 -/
def spec_PutVar.l0 : Nat → Int → List Int → Option (List Int)
 | 0, _, _ => none
 | k + 1, x0, x3 => if x0 > 127 then (if x3.length < 140737488355328 then (spec_PutVar.l0 k (x0 / 128) (x3 ++ [Go.bits .or .u8 ((x0) % 256) 128])) else (none)) else (if x3.length < 140737488355328 then (some (x3 ++ [(x0) % 256])) else (none))
def spec_PutVar.f (k : Nat) (a0 : Int) : Option (List Int) := spec_PutVar.l0 k a0 ([] : List Int)
set_option maxHeartbeats 8000000 in
set_option maxRecDepth 100000 in
theorem spec_PutVar.calls (k : Nat) (a0 : Int) (r : List Int) (w : World) (h : spec_PutVar.f k a0 = some r) :
  Calls Try.prog 37 #[.int .u64 a0] w fun e w' => ∃ v0_ : Value, e = .returned (v0_) ∧ Kd.R (Kd.int .u8) 5 w' w.heap.size (fun _ => True) v0_ r ∧ Below w.heap.size w w' := by
 have HB := mK (Below.refl w.heap.size w)
 have H : (spec_PutVar.l0 k a0 ([] : List Int)) = some r := h
 clear h
 have H' := Aside0.mk H
 clear H
 go_enter Try.func37, Try.ntmps37
 go_wp2
 go_loopg [0, 3] k (fun kq v0 v3 w' => ∃ (x0_1 : Int) (x3_1 : List Int), v0 = .int .u64 x0_1 ∧ Aside0 (spec_PutVar.l0 kq x0_1 x3_1 = some r) ∧ Aside0 (kq ≤ k) ∧ Aside0 (Kd.R (Kd.int .u8) 5 w' w.heap.size (fun _ => True) v3 x3_1) ∧ Aside0 (Below w.heap.size w w'))
 case atStart => exact ⟨(a0), (([] : List Int)), sE, H', ⟨Nat.le_refl _⟩, ⟨by first | exact Kd.R_nil _ _ _ _ _ | exact Kd.N_nil _ _ _ _ _ | exact Kd.V_nil _ _ _ _ _ | exact Kd.Q_nil _ _ _ _ _ | exact Kd.S_nil _ _ _ _ _⟩, ⟨bL HB.out⟩⟩
 case round =>
  clear H'; obtain ⟨x0_1, x3_1, rfl, HA, HK1, HO_3, HB⟩ := hrel
  cases gk with
  | zero => exact absurd HA.out (by simp [spec_PutVar.l0])
  | succ k1 =>
   have H := HA.out; clear HA; simp only [spec_PutVar.l0] at H
   by_cases c2 : x0_1 > 127
   ·rw [if_pos c2] at H
    have c2b0 : decide (127 < x0_1) = true := decide_eq_true c2; clear c2
    by_cases c3 : x3_1.length < 140737488355328
    ·rw [if_pos c3] at H
     have LMc3 := Aside0.mk c3; clear c3; obtain ⟨y124, hy124⟩ : ∃ y_ : List Int, y_ = (x3_1 ++ [Go.bits .or .u8 ((x0_1) % 256) 128]) := ⟨_, rfl⟩
     replace H : (spec_PutVar.l0 k1 (x0_1 / 128) y124) = some r := by first | (rw [hy124]; with_reducible exact H) | (have H2_ := (Option.bind_some _ _).symm.trans H; rw [hy124]; with_reducible exact H2_) | (have H2_ := (Option.bind_some _ _).symm.trans H; with_reducible exact H2_) | with_reducible exact H | (rw [hy124]; exact H) | exact H
     have Ny124 := Aside0.mk hy124; clear hy124; have H' := Aside0.mk H; clear H
     go_wp2_with (first | ((with_reducible refine gate_builtin (b := .append) (xs := #[.tmp 6, .tmp 10]) rfl ?_); at_builtin; refine Kd.R_append (Kd.int .u8) (w0 := w) w.heap.size rfl (.tmp 6) (.tmp 10) 24 5 (.int .u8 0) 1 rfl Try.underlying24 info5 rfl (by decide) (by omega) u3 x3_1 (Go.bits .or .u8 ((x0_1) % 256) 128) [.int .u8 (Go.bits .or .u8 ((x0_1) % 256) 128)] (fun _ => True) (fun _ => False) rfl rfl ?aP (fun _ hk => hk.elim) ?aF ?aO ?aB ?aS ?aL ?_; (case aP => exact rfl); (case aB => exact (bL HB.out)); (case aF => exact (fun _ _ => trivial)); (case aO => exact (rK HO_3.out)); (case aS => exact (below_size (bL HB.out))); (case aL => have := LMc3.out; omega); intro v125 w4 ho hb hg hat; rw [← Ny124.out] at ho; have _ := mK (hb); have _ := mK (ho); clear HB HO_3; rename_i HB HO126; clear ho hb hg hat))
     go_roundg k1
     case measure => have := HK1.out; omega
     case rel => exact ⟨(x0_1 / 128), (y124), sE, H', ⟨by have := HK1.out; omega⟩, ⟨rK HO126.out⟩, ⟨bL HB.out⟩⟩
    ·rw [if_neg c3] at H; exact absurd H (by simp)
   ·rw [if_neg c2] at H
    have c2b0 : decide (127 < x0_1) = false := decide_eq_false c2; clear c2
    by_cases c5 : x3_1.length < 140737488355328
    ·rw [if_pos c5] at H
     have LMc5 := Aside0.mk c5; clear c5; obtain ⟨y127, hy127⟩ : ∃ y_ : List Int, y_ = (x3_1 ++ [(x0_1) % 256]) := ⟨_, rfl⟩
     replace H : (some y127) = some r := by first | (rw [hy127]; with_reducible exact H) | (have H2_ := (Option.bind_some _ _).symm.trans H; rw [hy127]; with_reducible exact H2_) | (have H2_ := (Option.bind_some _ _).symm.trans H; with_reducible exact H2_) | with_reducible exact H | (rw [hy127]; exact H) | exact H
     have Ny127 := Aside0.mk hy127; clear hy127; obtain rfl := Option.some.inj H
     go_wp2_with (first | ((with_reducible refine gate_builtin (b := .append) (xs := #[.tmp 14, .tmp 17]) rfl ?_); at_builtin; refine Kd.R_append (Kd.int .u8) (w0 := w) w.heap.size rfl (.tmp 14) (.tmp 17) 24 5 (.int .u8 0) 1 rfl Try.underlying24 info5 rfl (by decide) (by omega) u3 x3_1 ((x0_1) % 256) [.int .u8 ((x0_1) % 256)] (fun _ => True) (fun _ => False) rfl rfl ?aP (fun _ hk => hk.elim) ?aF ?aO ?aB ?aS ?aL ?_; (case aP => exact rfl); (case aB => exact (bL HB.out)); (case aF => exact (fun _ _ => trivial)); (case aO => exact (rK HO_3.out)); (case aS => exact (below_size (bL HB.out))); (case aL => have := LMc5.out; omega); intro v128 w6 ho hb hg hat; rw [← Ny127.out] at ho; have _ := mK (hb); have _ := mK (ho); clear HB HO_3; rename_i HB HO129; clear ho hb hg hat))
     go_ret
     exact ⟨_, sE, rK HO129.out, bL HB.out⟩
    ·rw [if_neg c5] at H; exact absurd H (by simp)
end Go.Proofs.Ytllmlnagihlokaa.PFnExactBoundsOf
