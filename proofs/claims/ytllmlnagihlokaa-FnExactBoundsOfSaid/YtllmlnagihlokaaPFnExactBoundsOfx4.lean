-- Written by a program of this session.
import Derived.Test.YtllmlnagihlokaaPFnExactBoundsOfx0
import Derived.Test.YtllmlnagihlokaaPFnExactBoundsOfx3
namespace Go.Proofs.Ytllmlnagihlokaa.PFnExactBoundsOf
open Go.RowKit Go.Proofs.YtllmlnagihlokaaW.PrintWords Go.Proofs.YtllmlnagihlokaaW.PrintLast Go.Proofs.YtllmlnagihlokaaW.PrintMore
attribute [local go_sem] max2_int min2_int max_two min_two max_three min_three max_four min_four hw_string_geq hw_string_gtr hw_string_leq
set_option linter.unusedVariables false
set_option linter.unusedSimpArgs false
/-! ### spec_l4Put: function 94 -/
def spec_l4Put.f (k : Nat) (l0 : List Int) (a1 : Int) : Option (List Int) := if a1 < 0 then ((spec_PutVar.f k (IntKind.u64.wrap (wrap64 ((wrap64 ((-2) * a1)) - 1)))).bind fun t130 => (if l0.length + t130.length < 140737488355328 then (some (l0 ++ t130)) else (none))) else ((spec_PutVar.f k (IntKind.u64.wrap (wrap64 (2 * a1)))).bind fun t136 => (if l0.length + t136.length < 140737488355328 then (some (l0 ++ t136)) else (none)))
set_option maxHeartbeats 8000000 in
set_option maxRecDepth 100000 in
theorem spec_l4Put.calls (k : Nat) (P0_ : Nat → Prop) (u9000_ : Value) (l0 : List Int) (a1 : Int) (r : List Int) (w0 w : World) (hB : Below w0.heap.size w0 w) (ho0 : Kd.R (Kd.int .u8) 5 w w0.heap.size P0_ u9000_ l0) (h : spec_l4Put.f k l0 a1 = some r) :
  Calls Try.prog 94 #[u9000_, .int .i64 a1] w fun e w' => ∃ v0_ : Value, e = .returned (v0_) ∧ Kd.R (Kd.int .u8) 5 w' w0.heap.size (fun k_ => (P0_ k_ ∨ w.heap.size ≤ k_)) v0_ r ∧ Below w0.heap.size w0 w' ∧ Kept w w' (fun k_ => P0_ k_) := by
 have HO0 := mK (show Kd.R (Kd.int .u8) 5 w w0.heap.size (fun k_ => (P0_ k_ ∨ w.heap.size ≤ k_)) u9000_ l0 from Kd.R_mono ho0 (fun k_ hk => (.inl hk)))
 have HK := mK (Kept.refl w (fun k_ => P0_ k_))
 have HW0 := Aside0.mk hB.size
 have HB := Aside0.mk hB
 clear hB
 have H : (if a1 < 0 then ((spec_PutVar.f k (IntKind.u64.wrap (wrap64 ((wrap64 ((-2) * a1)) - 1)))).bind fun t130 => (if l0.length + t130.length < 140737488355328 then (some (l0 ++ t130)) else (none))) else ((spec_PutVar.f k (IntKind.u64.wrap (wrap64 (2 * a1)))).bind fun t136 => (if l0.length + t136.length < 140737488355328 then (some (l0 ++ t136)) else (none)))) = some r := h
 clear h
 by_cases c3 : a1 < 0
 ·rw [if_pos c3] at H
  have c3b0 : decide (a1 < 0) = true := decide_eq_true c3; clear c3; replace H := Option.bind_eq_some_iff.mp H; obtain ⟨t130, A40, H⟩ := H; (try dsimp only at H); have A4 := Aside0.mk A40; clear A40
  by_cases c5 : l0.length + t130.length < 140737488355328
  ·rw [if_pos c5] at H
   have LMc5 := Aside0.mk c5; clear c5; obtain ⟨y133, hy133⟩ : ∃ y_ : List Int, y_ = (l0 ++ t130) := ⟨_, rfl⟩
   replace H : (some y133) = some r := by first | (rw [hy133]; with_reducible exact H) | (have H2_ := (Option.bind_some _ _).symm.trans H; rw [hy133]; with_reducible exact H2_) | (have H2_ := (Option.bind_some _ _).symm.trans H; with_reducible exact H2_) | with_reducible exact H | (rw [hy133]; exact H) | exact H
   have Ny133 := Aside0.mk hy133; clear hy133; obtain rfl := Option.some.inj H
   go_enter Try.func94, Try.ntmps94
   go_wp2_with (first | ((with_reducible refine gate_callee (f := 37) rfl ?_); refine gL (some 12) Try.func37 #[.int .u64 (IntKind.u64.wrap (wrap64 ((wrap64 ((-2) * a1)) - 1)))] ?_; (with_reducible refine (spec_PutVar.calls k (IntKind.u64.wrap (wrap64 ((wrap64 ((-2) * a1)) - 1))) t130 _ A4.out).mono ?_); rintro e w6 ⟨v131, rfl, ho0, hb⟩; refine ⟨_, rfl, ?_⟩; have _ := mK (Kd.R_elder' (rK HO0.out) (Kd.R_base ho0) hb); have _ := mK (Kd.R_lower (Kd.R_new' (Kd.R_newM (M := fun k_ => (P0_ k_ ∨ w.heap.size ≤ k_)) ho0 (by first | exact HK.out.1 | exact (show Kept w _ (fun k_ => P0_ k_) from by repeat (first | (with_reducible first | exact HK.out | apply Kept.alloc | apply Kept.drewN | apply Kept.drew) | exact HK.out)).1) (fun k_ h_ => .inr h_)) (Kd.R_lt (rK HO0.out))) (below_size (bL HB.out))); have _ := mK (Kept.below (S := (fun k_ => P0_ k_)) (by repeat (first | (with_reducible first | exact HK.out | apply Kept.alloc | apply Kept.drewN | apply Kept.drew) | exact HK.out)) hb); have _ := mK (below_step (bL HB.out) hb); clear HO0 HK HB; rename_i HO0 HO132 HK HB; (try clear hb); (try clear hb2); (try clear hk); (try clear hi); (try clear ho0); obtain ⟨Ao8, co8, eo8⟩ := Kd.R_slice HO132.out; subst eo8) | ((with_reducible refine gate_builtin (b := .append) (xs := #[.tmp 7, .tmp 12]) rfl ?_); at_builtin; refine Kd.R_append_rows (Kd.int .u8) (w0 := w0) w0.heap.size rfl (.tmp 7) (.tmp 12) 24 5 (.int .u8 0) 1 rfl Try.underlying24 info5 rfl (by decide) (by omega) u9000_ l0 t130 _ _ _ (fun k_ => (P0_ k_ ∨ w.heap.size ≤ k_) ∧ some k_ ≠ (.slice Ao8 t130.length co8 : Value).ownBlock) (fun _ => False) rfl rfl ?aO ?aR (fun _ _ h => h) (fun _ h => h.elim) ?aF ?aB ?aS ?aL ?_; (case aR => repeat (first | exact (Kd.R_reads' HO132.out).2.2 | (with_reducible refine Kd.C_alloc ?_ _) | (with_reducible refine Kd.C_drewN ?_ _) | (with_reducible refine Kd.C_drew ?_))); (case aB => exact (bL HB.out)); (case aF => exact (fun k_ hk => ⟨(.inr (Nat.le_trans (by first | exact HK.out.1 | exact (show Kept w _ (fun k_ => P0_ k_) from by repeat (first | (with_reducible first | exact HK.out | apply Kept.alloc | apply Kept.drewN | apply Kept.drew) | exact HK.out)).1) hk)), Kd.fresh' (Kd.R_lt (rK HO132.out)) k_ hk⟩)); (case aO => exact (rK HO0.out)); (case aS => exact (below_size (bL HB.out))); (case aL => have := LMc5.out; omega); intro v134 w7 ho hb hg hat; rw [← Ny133.out] at ho; have _ := mK (Kd.R_after (ok := (fun k_ => (P0_ k_ ∨ w.heap.size ≤ k_))) (by (with_reducible repeat (first | apply Kd.R_alloc | apply Kd.R_drewN | apply Kd.R_drew)); exact Kd.R_mono HO132.out (fun _ hk => ⟨hk.1.1, hk.2⟩)) hg hat); have _ := mK (hb); have _ := mK (Kept.of_grown (S := (fun k_ => P0_ k_)) hg (by repeat (first | (with_reducible first | exact HK.out | apply Kept.alloc | apply Kept.drewN | apply Kept.drew) | exact HK.out)) (fun k_ e_ => (HO0.out.1 k_ e_).1)); have _ := mK (ho); clear HO132 HB HK HO0; rename_i HO132 HB HK HO135; clear ho hb hg hat))
   go_ret
   exact ⟨_, sE, by (with_reducible repeat (first | apply Kd.R_alloc | apply Kd.R_drewN | apply Kd.R_drew)); exact Kd.R_mono HO135.out (fun _ hk => hk.1), bL HB.out, by repeat (first | (with_reducible first | exact HK.out | apply Kept.alloc | apply Kept.drewN | apply Kept.drew) | exact HK.out)⟩
  ·rw [if_neg c5] at H; exact absurd H (by simp)
 ·rw [if_neg c3] at H
  have c3b0 : decide (a1 < 0) = false := decide_eq_false c3; clear c3; replace H := Option.bind_eq_some_iff.mp H; obtain ⟨t136, A90, H⟩ := H; (try dsimp only at H); have A9 := Aside0.mk A90; clear A90
  by_cases c10 : l0.length + t136.length < 140737488355328
  ·rw [if_pos c10] at H
   have LMc10 := Aside0.mk c10; clear c10; obtain ⟨y139, hy139⟩ : ∃ y_ : List Int, y_ = (l0 ++ t136) := ⟨_, rfl⟩
   replace H : (some y139) = some r := by first | (rw [hy139]; with_reducible exact H) | (have H2_ := (Option.bind_some _ _).symm.trans H; rw [hy139]; with_reducible exact H2_) | (have H2_ := (Option.bind_some _ _).symm.trans H; with_reducible exact H2_) | with_reducible exact H | (rw [hy139]; exact H) | exact H
   have Ny139 := Aside0.mk hy139; clear hy139; obtain rfl := Option.some.inj H
   go_enter Try.func94, Try.ntmps94
   go_wp2_with (first | ((with_reducible refine gate_callee (f := 37) rfl ?_); refine gL (some 18) Try.func37 #[.int .u64 (IntKind.u64.wrap (wrap64 (2 * a1)))] ?_; (with_reducible refine (spec_PutVar.calls k (IntKind.u64.wrap (wrap64 (2 * a1))) t136 _ A9.out).mono ?_); rintro e w11 ⟨v137, rfl, ho0, hb⟩; refine ⟨_, rfl, ?_⟩; have _ := mK (Kd.R_elder' (rK HO0.out) (Kd.R_base ho0) hb); have _ := mK (Kd.R_lower (Kd.R_new' (Kd.R_newM (M := fun k_ => (P0_ k_ ∨ w.heap.size ≤ k_)) ho0 (by first | exact HK.out.1 | exact (show Kept w _ (fun k_ => P0_ k_) from by repeat (first | (with_reducible first | exact HK.out | apply Kept.alloc | apply Kept.drewN | apply Kept.drew) | exact HK.out)).1) (fun k_ h_ => .inr h_)) (Kd.R_lt (rK HO0.out))) (below_size (bL HB.out))); have _ := mK (Kept.below (S := (fun k_ => P0_ k_)) (by repeat (first | (with_reducible first | exact HK.out | apply Kept.alloc | apply Kept.drewN | apply Kept.drew) | exact HK.out)) hb); have _ := mK (below_step (bL HB.out) hb); clear HO0 HK HB; rename_i HO0 HO138 HK HB; (try clear hb); (try clear hb2); (try clear hk); (try clear hi); (try clear ho0); obtain ⟨Ao13, co13, eo13⟩ := Kd.R_slice HO138.out; subst eo13) | ((with_reducible refine gate_builtin (b := .append) (xs := #[.tmp 14, .tmp 18]) rfl ?_); at_builtin; refine Kd.R_append_rows (Kd.int .u8) (w0 := w0) w0.heap.size rfl (.tmp 14) (.tmp 18) 24 5 (.int .u8 0) 1 rfl Try.underlying24 info5 rfl (by decide) (by omega) u9000_ l0 t136 _ _ _ (fun k_ => (P0_ k_ ∨ w.heap.size ≤ k_) ∧ some k_ ≠ (.slice Ao13 t136.length co13 : Value).ownBlock) (fun _ => False) rfl rfl ?aO ?aR (fun _ _ h => h) (fun _ h => h.elim) ?aF ?aB ?aS ?aL ?_; (case aR => repeat (first | exact (Kd.R_reads' HO138.out).2.2 | (with_reducible refine Kd.C_alloc ?_ _) | (with_reducible refine Kd.C_drewN ?_ _) | (with_reducible refine Kd.C_drew ?_))); (case aB => exact (bL HB.out)); (case aF => exact (fun k_ hk => ⟨(.inr (Nat.le_trans (by first | exact HK.out.1 | exact (show Kept w _ (fun k_ => P0_ k_) from by repeat (first | (with_reducible first | exact HK.out | apply Kept.alloc | apply Kept.drewN | apply Kept.drew) | exact HK.out)).1) hk)), Kd.fresh' (Kd.R_lt (rK HO138.out)) k_ hk⟩)); (case aO => exact (rK HO0.out)); (case aS => exact (below_size (bL HB.out))); (case aL => have := LMc10.out; omega); intro v140 w12 ho hb hg hat; rw [← Ny139.out] at ho; have _ := mK (Kd.R_after (ok := (fun k_ => (P0_ k_ ∨ w.heap.size ≤ k_))) (by (with_reducible repeat (first | apply Kd.R_alloc | apply Kd.R_drewN | apply Kd.R_drew)); exact Kd.R_mono HO138.out (fun _ hk => ⟨hk.1.1, hk.2⟩)) hg hat); have _ := mK (hb); have _ := mK (Kept.of_grown (S := (fun k_ => P0_ k_)) hg (by repeat (first | (with_reducible first | exact HK.out | apply Kept.alloc | apply Kept.drewN | apply Kept.drew) | exact HK.out)) (fun k_ e_ => (HO0.out.1 k_ e_).1)); have _ := mK (ho); clear HO138 HB HK HO0; rename_i HO138 HB HK HO141; clear ho hb hg hat))
   go_ret
   exact ⟨_, sE, by (with_reducible repeat (first | apply Kd.R_alloc | apply Kd.R_drewN | apply Kd.R_drew)); exact Kd.R_mono HO141.out (fun _ hk => hk.1), bL HB.out, by repeat (first | (with_reducible first | exact HK.out | apply Kept.alloc | apply Kept.drewN | apply Kept.drew) | exact HK.out)⟩
  ·rw [if_neg c10] at H; exact absurd H (by simp)
/-! ### spec_l4Bytes: function 66 -/
mutual
def spec_l4Bytes.j0 : Nat → List Int → Int → Int → Int → Int → List Int → Bool → Option (List Int)
 | 0, _, _, _, _, _, _, _ => none
 | k + 1, x3, x143000, x143001, x143002, x143003, x143004, x143005 => (some (([x143000, x143001, x143002, x143003] : List Int) : List Int)).bind fun y147 => (if y147.length + x143004.length < 17592186044416 then ((some (y147 ++ x143004 : List Int)).bind fun y150 => (spec_l4Bytes.l0 k x3 y150 (y150.length : Int) 0)) else (none))
def spec_l4Bytes.l0 : Nat → List Int → List Int → Int → Int → Option (List Int)
 | 0, _, _, _, _ => none
 | k + 1, x3, x22, x23, x24 => if x24 < x23 then (if 0 ≤ x24 then (if x24 < (x22.length : Int) then ((spec_l4Put.f k x3 (rd x22 x24)).bind fun t154 => (spec_l4Bytes.l0 k t154 x22 x23 (wrap64 (x24 + 1)))) else (none)) else (none)) else (some x3)
end
def spec_l4Bytes.f (k : Nat) (a0_0 : Int) (a0_1 : Int) (a0_2 : Int) (a0_3 : Int) (l0_4 : List Int) (a0_5 : Bool) : Option (List Int) := (some (([0] : List Int) : List Int)).bind fun y143 => (if a0_5 = true then (if 0 < (y143.length : Int) then (spec_l4Bytes.j0 k (y143.set (0 : Int).toNat 1) a0_0 a0_1 a0_2 a0_3 l0_4 a0_5) else (none)) else (spec_l4Bytes.j0 k y143 a0_0 a0_1 a0_2 a0_3 l0_4 a0_5))
set_option maxHeartbeats 8000000 in
set_option maxRecDepth 100000 in
theorem spec_l4Bytes.calls (k : Nat) (a0_0 : Int) (a0_1 : Int) (a0_2 : Int) (a0_3 : Int) (A0_4 : Option Addr) (c0_4 : Nat) (l0_4 : List Int) (a0_5 : Bool) (r : List Int) (w : World) (hr0_4 : Kd.C (Kd.int .i64) w A0_4 l0_4.length l0_4) (hc0_4 : l0_4.length ≤ c0_4) (h : spec_l4Bytes.f k a0_0 a0_1 a0_2 a0_3 l0_4 a0_5 = some r) :
  Calls Try.prog 66 #[.agg #[.int .i64 a0_0, .int .i64 a0_1, .int .i64 a0_2, .int .i64 a0_3, .slice A0_4 l0_4.length c0_4, .bool a0_5]] w fun e w' => ∃ v0_ : Value, e = .returned (v0_) ∧ Kd.R (Kd.int .u8) 5 w' w.heap.size (fun _ => True) v0_ r ∧ Below w.heap.size w w' := by
 have hu49 := Try.underlying49
 have HR0_4 := Aside0.mk hr0_4
 have HC0_4 := Aside0.mk hc0_4
 clear hr0_4 hc0_4
 have HB := mK (Below.refl w.heap.size w)
 have H : ((some (([0] : List Int) : List Int)).bind fun y143 => (if a0_5 = true then (if 0 < (y143.length : Int) then (spec_l4Bytes.j0 k (y143.set (0 : Int).toNat 1) a0_0 a0_1 a0_2 a0_3 l0_4 a0_5) else (none)) else (spec_l4Bytes.j0 k y143 a0_0 a0_1 a0_2 a0_3 l0_4 a0_5))) = some r := h
 clear h
 obtain ⟨y143, hy143⟩ : ∃ y_ : List Int, y_ = (([0] : List Int)) := ⟨_, rfl⟩
 replace H : (if a0_5 = true then (if 0 < (y143.length : Int) then (spec_l4Bytes.j0 k (y143.set (0 : Int).toNat 1) a0_0 a0_1 a0_2 a0_3 l0_4 a0_5) else (none)) else (spec_l4Bytes.j0 k y143 a0_0 a0_1 a0_2 a0_3 l0_4 a0_5)) = some r := by first | (rw [hy143]; with_reducible exact H) | (have H2_ := (Option.bind_some _ _).symm.trans H; rw [hy143]; with_reducible exact H2_) | (have H2_ := (Option.bind_some _ _).symm.trans H; with_reducible exact H2_) | with_reducible exact H | (rw [hy143]; exact H) | exact H
 have Ny143 := Aside0.mk hy143
 clear hy143
 have HC2 := Aside0.mk H
 clear H
 go_enter Try.func66, Try.ntmps66
 go_upto_if 8 with (first | ((with_reducible refine gate_dst (N := 1) rfl ?_); refine box_event ?hg (N := 1) ?hd (cs := #[.int .i64 a0_0, .int .i64 a0_1, .int .i64 a0_2, .int .i64 a0_3, .slice A0_4 l0_4.length c0_4, .bool a0_5]) (t := 49) ?hr ?_; (case hd => rfl); (case hg => rfl); (case hr => first | (go_simp; done) | (go_simp; rfl)); intro gb142 hg w3 hbox hb; have _ := mK (below_step (bL HB.out) hb); have _ := mK (hbox); have _ := mK (sL hg (bL HB.out)); clear HB; rename_i HB BK142 GE142; clear hb hbox hg) | ((with_reducible refine gate_dst (N := 6) rfl ?_); refine Kd.R_lit (Kd.int .u8) _ 5 ?hg (N := 6) ?hd (xs := ([0] : List Int)) (inner := [.int .u8 0]) (ok := fun _ => True) (okp := fun _ => True) ?hr ?hp (fun _ hk => hk) trivial (Below.refl _ _) (Nat.le_refl _) (by simp) ?_; (case hd => rfl); (case hg => rfl); (case hr => first | (go_simp; done) | (go_simp; rfl)); (case hp => exact (Reps.one (show Kd.M (Kd.int .u8) _ _ _ 0 [.int .u8 0] from rfl) (Reps.none _ _))); intro v144 w4 ho5 hb hg_ hnew_; clear hg_ hnew_; (first | rw [← Ny143.out] at ho5 | (simp only [Int.reduceToNat] at ho5; rw [← Ny143.out] at ho5)); have _ := mK (Kd.R_lower ho5 (below_size (bL HB.out))); have _ := mK (blk_below (bK BK142.out) hb); have _ := mK (below_step (bL HB.out) hb); clear BK142 HB; rename_i HO145 BK142 HB; clear hb ho5; obtain ⟨hcz6_0, hcz6_1, hcz6_2, hcz6_3, hcz6_4, hcz6_5⟩ := kc6 BK142.out; obtain ⟨hfz6_0, hfz6_1, hfz6_2, hfz6_3, hfz6_4, hfz6_5⟩ := kf6 BK142.out))
 (try simp only [Act.put, sq_a, sq_b, sq_c])
 go_cut [] (fun wc => ∃ (kq : Nat) (x3_1 : List Int), Aside0 (spec_l4Bytes.j0 kq x3_1 a0_0 a0_1 a0_2 a0_3 l0_4 a0_5 = some r) ∧ Aside0 (kq ≤ k) ∧ Aside0 (Kd.R (Kd.int .u8) 5 wc w.heap.size (fun _ => True) v144 x3_1) ∧ Aside0 (wc.heap[gb142]? = some (.cells #[.int .i64 a0_0, .int .i64 a0_1, .int .i64 a0_2, .int .i64 a0_3, (.slice A0_4 l0_4.length c0_4), .bool a0_5] 49 (0, 0))) ∧ Aside0 (Below w.heap.size w wc))
 case first =>
  have H := HC2.out; clear HC2
  by_cases c7 : a0_5 = true
  ·subst c7
   have H1 : (if 0 < (y143.length : Int) then (spec_l4Bytes.j0 k (y143.set (0 : Int).toNat 1) a0_0 a0_1 a0_2 a0_3 l0_4 true) else (none)) = some r := by rw [if_pos rfl] at H; exact H
   clear H; have H := H1; clear H1
   by_cases c8 : 0 < (y143.length : Int)
   ·rw [if_pos c8] at H
    have c8b0 : decide (0 < (y143.length : Int)) = true := decide_eq_true c8; have c8b1 : decide (0 < y143.length) = true := decide_eq_true (by omega); clear c8; (first | rw [c8b0] | (simp only [i64_w, i32_w]; rw [c8b0]) | skip); obtain ⟨y146, hy146⟩ : ∃ y_ : List Int, y_ = (y143.set (0 : Int).toNat 1) := ⟨_, rfl⟩
    replace H : (spec_l4Bytes.j0 k y146 a0_0 a0_1 a0_2 a0_3 l0_4 true) = some r := by first | (rw [hy146]; with_reducible exact H) | (have H2_ := (Option.bind_some _ _).symm.trans H; rw [hy146]; with_reducible exact H2_) | (have H2_ := (Option.bind_some _ _).symm.trans H; with_reducible exact H2_) | with_reducible exact H | (rw [hy146]; exact H) | exact H
    have Ny146 := Aside0.mk hy146; clear hy146; have H' := Aside0.mk H; clear H; have p9 : 0 ≤ (0 : Int) := (by omega); have q9 : (0 : Int) < ((y143.length : Int) : Int) := oD; have qi9 : (0 < y143.length) = True := eq_true (by omega); obtain ⟨go9, co9, eo9, gb9, gl9, cl9, HG9⟩ := Kd.R_form HO145.out (by omega); (first | cases eo9 | (injection eo9 with ea_ en_ ec_; (first | subst ea_ | (injection ea_ with ea_; subst ea_)); subst ec_; clear en_)); have GB9 := Aside0.mk gb9; have GG9 := Aside0.mk HG9; clear gb9 gl9 HG9; obtain ⟨hx9_0, hf9_0⟩ := Kd.R_celln 0 HO145.out (0 : Int) p9 q9; (try rw [show ((0 : Int)).toNat = 0 from rfl] at hx9_0); (try simp only [Nat.reduceMul, Nat.zero_mul, Nat.zero_add, Nat.reduceAdd] at hx9_0); (try rw [show ((0 : Int)).toNat = 0 from rfl] at hf9_0); (try simp only [Nat.reduceMul, Nat.zero_mul, Nat.zero_add, Nat.reduceAdd] at hf9_0); replace p9 := eq_true p9; replace q9 := eq_true q9; have HP10 := Kd.R_putg HO145.out (0 : Int) 1
    go_wp2_with (first | ((with_reducible refine gate_store (t := 5) (p := 10) rfl ?_); refine store_event (t := 5) (p := 10) (v := ?vo_w11) (w1 := (w4.setCell ⟨go9, (0 : Int).toNat, none⟩ (.int .u8 1))) ?hg ?ho ?hn ?hr ?_; (case ho => rfl); (case hg => rfl); (case hn => rfl); (case hr => first | (go_simp; done) | (go_simp; rfl)); intro w11 hw; have hg : w4.grownBy w11 (some go9) := (by rw [hw]; exact HP10.2); have hp_ : Kd.R (Kd.int .u8) 5 w11 w.heap.size (fun _ => True) (.slice (some ⟨go9, 0, none⟩) y143.length co9) y146 := (by rw [hw, Ny146.out]; exact HP10.1); clear HP10; have _ := mK (blk_grown (bK BK142.out) hg (Kd.R_ne HO145.out BK142.out (by decide))); have _ := mK (hp_); have _ := mK ((by rw [hw]; exact below_set (HB.out) GB9.out : Below w.heap.size w w11)); clear BK142 HO145 HB; rename_i BK142 HO145 HB; clear hg hw hp_))
    go_meet
    case rel => exact ⟨_, (y146), H', ⟨by first | omega | exact Nat.le_refl _⟩, ⟨rK HO145.out⟩, ⟨bK BK142.out⟩, ⟨bL HB.out⟩⟩
   ·rw [if_neg c8] at H; exact absurd H (by simp)
  ·replace c7 := Bool.eq_false_iff.mpr c7
   subst c7
   have H1 : (spec_l4Bytes.j0 k y143 a0_0 a0_1 a0_2 a0_3 l0_4 false) = some r := by rw [if_neg (show ¬ (false = true) by decide)] at H; exact H
   clear H; have H := H1; clear H1; have H' := Aside0.mk H; clear H
   go_wp2
   go_meet
   case rel => exact ⟨_, (y143), H', ⟨by first | omega | exact Nat.le_refl _⟩, ⟨rK HO145.out⟩, ⟨bK BK142.out⟩, ⟨bL HB.out⟩⟩
 case rest =>
  clear HC2
  try clear p2
  try clear c6
  try clear c7
  try clear c8
  try clear c8b0
  try clear c8b1
  try clear p9
  try clear q9
  try clear hx9
  try clear qi9
  try clear hf9
  try clear hcz6_0
  try clear hcz6_1
  try clear hcz6_2
  try clear hcz6_3
  try clear hcz6_4
  try clear hcz6_5
  try clear hfz6_0
  try clear hfz6_1
  try clear hfz6_2
  try clear hfz6_3
  try clear hfz6_4
  try clear hfz6_5
  try clear hx9_0
  try clear p9
  try clear q9
  obtain ⟨kq, x3_1, HA, HJ1, HO_3, BK142, HB⟩ := hcut
  cases kq with
  | zero => exact absurd HA.out (by simp [spec_l4Bytes.j0])
  | succ kj1 =>
   have H := HA.out; clear HA; simp only [spec_l4Bytes.j0] at H; obtain ⟨y147, hy147⟩ : ∃ y_ : List Int, y_ = (([a0_0, a0_1, a0_2, a0_3] : List Int)) := ⟨_, rfl⟩
   replace H : (if y147.length + l0_4.length < 17592186044416 then ((some (y147 ++ l0_4 : List Int)).bind fun y150 => (spec_l4Bytes.l0 kj1 x3_1 y150 (y150.length : Int) 0)) else (none)) = some r := by first | (rw [hy147]; with_reducible exact H) | (have H2_ := (Option.bind_some _ _).symm.trans H; rw [hy147]; with_reducible exact H2_) | (have H2_ := (Option.bind_some _ _).symm.trans H; with_reducible exact H2_) | with_reducible exact H | (rw [hy147]; exact H) | exact H
   have Ny147 := Aside0.mk hy147; clear hy147
   by_cases c12 : y147.length + l0_4.length < 17592186044416
   ·rw [if_pos c12] at H
    have LMc12 := Aside0.mk c12; clear c12; obtain ⟨y150, hy150⟩ : ∃ y_ : List Int, y_ = (y147 ++ l0_4) := ⟨_, rfl⟩
    replace H : (spec_l4Bytes.l0 kj1 x3_1 y150 (y150.length : Int) 0) = some r := by first | (rw [hy150]; with_reducible exact H) | (have H2_ := (Option.bind_some _ _).symm.trans H; rw [hy150]; with_reducible exact H2_) | (have H2_ := (Option.bind_some _ _).symm.trans H; with_reducible exact H2_) | with_reducible exact H | (rw [hy150]; exact H) | exact H
    have Ny150 := Aside0.mk hy150; clear hy150; have H' := Aside0.mk H; clear H; obtain ⟨hcz13_0, hcz13_1, hcz13_2, hcz13_3, hcz13_4, hcz13_5⟩ := kc6 BK142.out; obtain ⟨hfz13_0, hfz13_1, hfz13_2, hfz13_3, hfz13_4, hfz13_5⟩ := kf6 BK142.out
    go_wp2_with (first | ((with_reducible refine gate_dst (N := 19) rfl ?_); refine Kd.R_lit (Kd.int .i64) _ 3 ?hg (N := 19) ?hd (xs := ([a0_0, a0_1, a0_2, a0_3] : List Int)) (inner := [.int .i64 a0_0, .int .i64 a0_1, .int .i64 a0_2, .int .i64 a0_3]) (ok := fun _ => True) (okp := fun _ => True) ?hr ?hp (fun _ hk => hk) trivial (Below.refl _ _) (Nat.le_refl _) (by simp) ?_; (case hd => rfl); (case hg => rfl); (case hr => first | (go_simp; done) | (go_simp; rfl)); (case hp => exact (Reps.one (show Kd.M (Kd.int .i64) _ _ _ a0_0 [.int .i64 a0_0] from rfl) (Reps.one (show Kd.M (Kd.int .i64) _ _ _ a0_1 [.int .i64 a0_1] from rfl) (Reps.one (show Kd.M (Kd.int .i64) _ _ _ a0_2 [.int .i64 a0_2] from rfl) (Reps.one (show Kd.M (Kd.int .i64) _ _ _ a0_3 [.int .i64 a0_3] from rfl) (Reps.none _ _)))))); intro v148 w14 ho15 hb hg_ hnew_; clear hg_ hnew_; (first | rw [← Ny147.out] at ho15 | (simp only [Int.reduceToNat] at ho15; rw [← Ny147.out] at ho15)); have _ := mK (Kd.R_below (rK HO_3.out) hb); have _ := mK (Kd.R_lower ho15 (below_size (bL HB.out))); have _ := mK (blk_below (bK BK142.out) hb); have _ := mK (below_step (bL HB.out) hb); clear HO_3 BK142 HB; rename_i HO_3 HO149 BK142 HB; clear hb ho15; obtain ⟨hcz16_0, hcz16_1, hcz16_2, hcz16_3, hcz16_4, hcz16_5⟩ := kc6 BK142.out; obtain ⟨hfz16_0, hfz16_1, hfz16_2, hfz16_3, hfz16_4, hfz16_5⟩ := kf6 BK142.out) | ((with_reducible refine gate_builtin (b := .append) (xs := #[.tmp 19, .tmp 21]) rfl ?_); at_builtin; refine Kd.R_append_rows (Kd.int .i64) (w0 := w) w.heap.size rfl (.tmp 19) (.tmp 21) 41 3 (.int .i64 0) 8 rfl Try.underlying41 info3 rfl (by decide) (by omega) v148 y147 l0_4 _ _ _ (fun _ => True) (fun _ => False) rfl rfl ?aO ?aR (fun _ _ h => h) (fun _ h => h.elim) ?aF ?aB ?aS ?aL ?_; (case aR => repeat (first | exact (Kd.C_below HR0_4.out HB.out) | (with_reducible refine Kd.C_alloc ?_ _) | (with_reducible refine Kd.C_drewN ?_ _) | (with_reducible refine Kd.C_drew ?_))); (case aB => exact (bL HB.out)); (case aF => exact (fun _ _ => trivial)); (case aO => exact (rK HO149.out)); (case aS => exact (below_size (bL HB.out))); (case aL => have := LMc12.out; omega); intro v151 w17 ho hb hg hat; rw [← Ny150.out] at ho; have _ := mK (Kd.R_over' (rK HO_3.out) (Kd.R_typed (rK HO149.out)) (by decide) hg); have _ := mK (blk_grown (bK BK142.out) hg (Kd.R_ne HO149.out BK142.out (by decide))); have _ := mK (hb); have _ := mK (ho); clear HO_3 BK142 HB HO149; rename_i HO_3 BK142 HB HO152; clear ho hb hg hat; obtain ⟨Ao18, co18, eo18⟩ := Kd.R_slice HO152.out; subst eo18))
    go_loopg [3, 24] kj1 (fun kq v3 v24 w' => ∃ (x3_2 : List Int) (x24_2 : Int), v24 = .int .i64 x24_2 ∧ Aside0 (spec_l4Bytes.l0 kq x3_2 y150 (y150.length : Int) x24_2 = some r) ∧ Aside0 (kq ≤ kj1) ∧ Aside0 (Kd.R (Kd.int .u8) 5 w' w.heap.size (fun _ => True) v3 x3_2) ∧ Aside0 (Kd.R (Kd.int .i64) 3 w' w.heap.size (fun _ => True) (.slice Ao18 y150.length co18) y150) ∧ Aside0 (w'.heap[gb142]? = some (.cells #[.int .i64 a0_0, .int .i64 a0_1, .int .i64 a0_2, .int .i64 a0_3, (.slice A0_4 l0_4.length c0_4), .bool a0_5] 49 (0, 0))) ∧ Aside0 (Below w.heap.size w w'))
    case atStart => exact ⟨(x3_1), (0), sE, H', ⟨Nat.le_refl _⟩, ⟨rK HO_3.out⟩, ⟨rK HO152.out⟩, ⟨bK BK142.out⟩, ⟨bL HB.out⟩⟩
    case round =>
     clear H'
     try clear c1
     try clear p2
     try clear c6
     try clear c7
     try clear c8
     try clear c8b0
     try clear c8b1
     try clear p9
     try clear q9
     try clear hx9
     try clear qi9
     try clear hf9
     try clear c12
     try clear hcz13_0
     try clear hcz13_1
     try clear hcz13_2
     try clear hcz13_3
     try clear hcz13_4
     try clear hcz13_5
     try clear hcz16_0
     try clear hcz16_1
     try clear hcz16_2
     try clear hcz16_3
     try clear hcz16_4
     try clear hcz16_5
     try clear hcz6_0
     try clear hcz6_1
     try clear hcz6_2
     try clear hcz6_3
     try clear hcz6_4
     try clear hcz6_5
     try clear hfz13_0
     try clear hfz13_1
     try clear hfz13_2
     try clear hfz13_3
     try clear hfz13_4
     try clear hfz13_5
     try clear hfz16_0
     try clear hfz16_1
     try clear hfz16_2
     try clear hfz16_3
     try clear hfz16_4
     try clear hfz16_5
     try clear hfz6_0
     try clear hfz6_1
     try clear hfz6_2
     try clear hfz6_3
     try clear hfz6_4
     try clear hfz6_5
     try clear hx9_0
     try clear p2
     try clear p9
     try clear q9
     obtain ⟨x3_2, x24_2, rfl, HA, HK2, HO_3, HO_22, BK142, HB⟩ := hrel
     cases gk with
     | zero => exact absurd HA.out (by simp [spec_l4Bytes.l0])
     | succ k2 =>
      have H := HA.out; clear HA; simp only [spec_l4Bytes.l0] at H
      by_cases c19 : x24_2 < (y150.length : Int)
      ·rw [if_pos c19] at H
       have c19b0 : decide (x24_2 < (y150.length : Int)) = true := decide_eq_true c19; clear c19
       by_cases c20 : 0 ≤ x24_2
       ·rw [if_pos c20] at H
        have c20b0 : decide (0 ≤ x24_2) = true := decide_eq_true c20; clear c20
        by_cases c21 : x24_2 < (y150.length : Int)
        ·rw [if_pos c21] at H
         have c21b0 : decide (x24_2 < (y150.length : Int)) = true := decide_eq_true c21; clear c21; replace H := Option.bind_eq_some_iff.mp H; obtain ⟨t154, A220, H⟩ := H; (try dsimp only at H); have A22 := Aside0.mk A220; clear A220; have H' := Aside0.mk H; clear H; have p153 : 0 ≤ (x24_2 : Int) := oD; have q153 : x24_2 < (y150.length : Int) := oD; obtain ⟨ad153, e153, hx153_0⟩ := Kd.at_int (Kd.R_reads' HO_22.out).2.2 x24_2 p153 q153
         cases e153
         replace p153 := eq_true p153; replace q153 := eq_true q153; obtain ⟨Ao23, co23, eo23⟩ := Kd.R_slice HO_3.out; subst eo23
         go_wp2_with (first | ((with_reducible refine gate_callee (f := 94) rfl ?_); refine gL (some 30) Try.func94 #[.slice Ao23 x3_2.length co23, .int .i64 (rd y150 x24_2)] ?_; (with_reducible refine (spec_l4Put.calls k2 (fun k_ => some k_ = (.slice Ao23 x3_2.length co23 : Value).ownBlock) (.slice Ao23 x3_2.length co23) x3_2 (rd y150 x24_2) t154 w _ ?side1 ?side2 A22.out).mono ?_); (case side1 => exact bL HB.out); (case side2 => exact Kd.R_tight rfl HO_3.out); rintro e w24 ⟨v155, rfl, ho0, hb, hkp⟩; refine ⟨_, rfl, ?_⟩; have _ := mK (Kd.R_mono (ok' := fun k_ => True) (Kd.R_keptB ((Kd.R_apart' HO_22.out (Kd.R_typed HO_3.out) (by decide))) hkp (fun k_ hk_ hs_ => (hk_.2) hs_)) (fun k_ hk_ => trivial)); have _ := mK (blk_kept (bK BK142.out) hkp (fun hs_ => (fun e_ => (Kd.R_ne HO_3.out BK142.out (by decide)) e_) hs_)); have _ := mK (Kd.R_mono (ok' := fun k_ => True) ho0 (fun k_ hk_ => trivial)); have _ := mK (hb); clear HO_22 BK142 HB HO_3; rename_i HO_22 BK142 HO156 HB; (try clear hb); (try clear hkp); (try clear ho0)))
         go_roundg k2
         case measure => have := HJ1.out; have := HK2.out; omega
         case rel => exact ⟨(t154), (wrap64 (x24_2 + 1)), sE, H', ⟨by have := HJ1.out; have := HK2.out; omega⟩, ⟨rK HO156.out⟩, ⟨rK HO_22.out⟩, ⟨bK BK142.out⟩, ⟨bL HB.out⟩⟩
        ·rw [if_neg c21] at H; exact absurd H (by simp)
       ·rw [if_neg c20] at H; exact absurd H (by simp)
      ·rw [if_neg c19] at H
       have c19b0 : decide (x24_2 < (y150.length : Int)) = false := decide_eq_false c19; clear c19; obtain rfl := Option.some.inj H
       go_wp2
       go_ret
       exact ⟨_, sE, rK HO_3.out, bL HB.out⟩
   ·rw [if_neg c12] at H; exact absurd H (by simp)
/-! ### spec_l7Block: function 36, by hand -/
def spec_l7Block.pre (a b : ByteArray) : Nat → Nat → Nat
 | 0, n => n
 | d + 1, n => if bt a (n : Int) = bt b (n : Int) then spec_l7Block.pre a b d (n + 1) else n
theorem spec_l7Block.pre_le (a b : ByteArray) : ∀ d n, spec_l7Block.pre a b d n ≤ n + d
 | 0, n => Nat.le_refl _
 | d + 1, n => by
  unfold spec_l7Block.pre
  split
  ·have := spec_l7Block.pre_le a b d (n + 1); omega
  ·omega
def spec_l7Block.lc (a b : ByteArray) : Nat := spec_l7Block.pre a b (min a.size b.size) 0
theorem spec_l7Block.lc_le (a b : ByteArray) : spec_l7Block.lc a b ≤ a.size ∧ spec_l7Block.lc a b ≤ b.size := by
 have := spec_l7Block.pre_le a b (min a.size b.size) 0
 unfold spec_l7Block.lc
 omega
def spec_l7Block.agg (k : Nat) (e : (S51)) : Option (List Int) := if e.f2 = 2 then some [] else spec_l4Bytes.f k e.f3.f0 e.f3.f1 e.f3.f2 e.f3.f3 e.f3.f4 e.f3.f5
def spec_l7Block.ent (k n : Nat) (e : (S51)) : Option (List Int) :=
 (spec_l7Block.agg k e).bind fun g => (spec_PutVar.f k (n : Int)).bind fun p1 => (spec_PutVar.f k ((e.f0.size : Int) - (n : Int))).bind fun p2 => (spec_PutVar.f k (IntKind.u64.wrap e.f1)).bind fun p3 => (spec_PutVar.f k (g.length : Int)).bind fun p4 =>
  if e.f0.size ≤ 1000000 ∧ g.length ≤ 1000000 ∧ p1.length ≤ 100 ∧ p2.length ≤ 100 ∧ p3.length ≤ 100 ∧ p4.length ≤ 100 then some ((((((p1 ++ p2) ++ p3) ++ [e.f2 % 256]) ++ p4) ++ bytesOf (e.f0.extract n e.f0.size)) ++ g) else none
def spec_l7Block.key (l : List (S51)) : Nat → ByteArray
 | 0 => ⟨#[]⟩
 | j + 1 => (rd_T51 l (j : Int)).f0
def spec_l7Block.step (k : Nat) (l : List (S51)) (j : Nat) (b : List Int) : Option (List Int) := (spec_l7Block.ent k (spec_l7Block.lc (spec_l7Block.key l j) (rd_T51 l (j : Int)).f0) (rd_T51 l (j : Int))).bind fun q => if b.length ≤ 1000000000 then some (b ++ q) else none
def spec_l7Block.run (k : Nat) (l : List (S51)) : Nat → Option (List Int)
 | 0 => some []
 | j + 1 => (spec_l7Block.run k l j).bind (spec_l7Block.step k l j)
def spec_l7Block.f (k : Nat) (l : List (S51)) : Option (List Int) := if l.length ≤ 1000000 then spec_l7Block.run k l l.length else none
theorem spec_l7Block.run_before {k : Nat} {l : List (S51)} : ∀ {n j : Nat} {st : List Int}, spec_l7Block.run k l n = some st → j ≤ n → ∃ st', spec_l7Block.run k l j = some st' := by
 intro n
 induction n with
 | zero =>
  intro j st h hj
  obtain rfl : j = 0 := by omega
  exact ⟨_, h⟩
 | succ n ih =>
  intro j st h hj
  by_cases e : j = n + 1
  ·subst e; exact ⟨_, h⟩
  ·obtain ⟨s, hs, _⟩ := Option.bind_eq_some_iff.mp h; exact ih hs (by omega)
section
set_option maxHeartbeats 8000000 in
set_option maxRecDepth 100000 in
theorem spec_l7Block.calls (k : Nat) (A0 : Option Addr) (c0 : Nat) (l0 : List (S51)) (r : List Int) (w : World) (hr0 : Kd.C k51 w A0 l0.length l0) (hc0 : l0.length ≤ c0) (h : spec_l7Block.f k l0 = some r) :
  Calls Try.prog 36 #[.slice A0 l0.length c0] w fun e w' => ∃ v0_ : Value, e = .returned (v0_) ∧ Kd.R (Kd.int .u8) 5 w' w.heap.size (fun _ => True) v0_ r ∧ Below w.heap.size w w' := by
 unfold spec_l7Block.f at h
 by_cases hl : l0.length ≤ 1000000
 case neg => rw [if_neg hl] at h; cases h
 rw [if_pos hl] at h
 have HR0 := Aside0.mk hr0
 have HRUN := Aside0.mk h
 have HL := Aside0.mk hl
 clear hr0 hc0 h hl
 have S := mK ((Sn.init (e := 5) (Below.refl w.heap.size w)).nil)
 go_enter Try.func36, Try.ntmps36
 go_wp2
 go_loopg [3, 4, 11] l0.length (fun gg v3 v4 v11 w' => ∃ (j c : Nat) (A : Option Addr) (b : List Int), j ≤ l0.length ∧ l0.length - j ≤ gg ∧ v3 = .slice A b.length c ∧ v4 = .string (spec_l7Block.key l0 j) ∧ v11 = .int .i64 (j : Nat) ∧ Aside0 (spec_l7Block.run k l0 j = some b) ∧ Aside0 (Sn 5 w w w' [(v3, b)] []))
 case atStart => exact ⟨0, 0, none, [], by omega, by omega, rfl, rfl, rfl, ⟨rfl⟩, ⟨snK S.out⟩⟩
 case round =>
  clear S; obtain ⟨j, cb, Ap, b, hj, hg, rfl, rfl, rfl, HB, S⟩ := hrel; have hl := HL.out
  by_cases hlt : j < l0.length
  ·obtain ⟨b2, hb2⟩ := spec_l7Block.run_before HRUN.out (show j + 1 ≤ l0.length by omega)
   have hst := hb2
   unfold spec_l7Block.run at hst
   rw [HB.out, Option.bind_some] at hst
   unfold spec_l7Block.step at hst
   obtain ⟨q, hq, hst⟩ := Option.bind_eq_some_iff.mp hst
   by_cases hbl : b.length ≤ 1000000000
   case neg => rw [if_neg hbl] at hst; cases hst
   rw [if_pos hbl] at hst; obtain rfl := Option.some.inj hst; obtain ⟨ad, A7, c7, ead, hx0, hx1, hx2, hx3, hx4, hx5, hx6, hx7, hx8, hl7, hi7⟩ := at_T51B HR0.out S.out.bel (j : Int) (by omega) (by omega)
   cases ead
   rw [Int.toNat_natCast] at hx0 hx1 hx2 hx3 hx4 hx5 hx6 hx7 hx8; have hkk : spec_l7Block.key l0 (j + 1) = (rd_T51 l0 (j : Int)).f0 := rfl; generalize rd_T51 l0 (j : Int) = x at hq hx0 hx1 hx2 hx3 hx4 hx5 hx6 hx7 hx8 hl7 hi7 hkk; generalize spec_l7Block.key l0 j = ka at hq ⊢
   unfold spec_l7Block.ent at hq
   obtain ⟨g, hgg, hq⟩ := Option.bind_eq_some_iff.mp hq; obtain ⟨p1, hp1, hq⟩ := Option.bind_eq_some_iff.mp hq; obtain ⟨p2, hp2, hq⟩ := Option.bind_eq_some_iff.mp hq; obtain ⟨p3, hp3, hq⟩ := Option.bind_eq_some_iff.mp hq; obtain ⟨p4, hp4, hq⟩ := Option.bind_eq_some_iff.mp hq
   by_cases hc : x.f0.size ≤ 1000000 ∧ g.length ≤ 1000000 ∧ p1.length ≤ 100 ∧ p2.length ≤ 100 ∧ p3.length ≤ 100 ∧ p4.length ≤ 100
   case neg => rw [if_neg hc] at hq; cases hq
   rw [if_pos hc] at hq; obtain rfl := Option.some.inj hq; have hle := spec_l7Block.lc_le ka x.f0; obtain ⟨n, hn⟩ : ∃ n, n = spec_l7Block.lc ka x.f0 := ⟨_, rfl⟩; rw [← hn] at hp1 hp2 hle hb2; have HN := Aside0.mk hn; have HG := Aside0.mk hgg; have HP1 := Aside0.mk hp1; have HP2 := Aside0.mk hp2; have HP3 := Aside0.mk hp3; have HP4 := Aside0.mk hp4; have HB2 := Aside0.mk hb2; have HK := Aside0.mk hkk; have HI := Aside0.mk hi7; have HL7 := Aside0.mk hl7; clear hn hgg hp1 hp2 hp3 hp4 hb2 hst hq hkk HB hi7 hl7
   have hjl : (j : Int) < (l0.length : Int) := by omega
   have hxs : (x.f0.extract n x.f0.size).size = x.f0.size - n := by rw [ByteArray.size_extract]; omega
   go_upto_block 2 with (first | ((with_reducible refine gate_dst (N := 6) rfl ?_); (try (refine gate_guard (by rfl) ?_; dsimp only)); refine box_event ?hg (N := 6) ?hd (cs := #[.string (⟨#[]⟩ : ByteArray), .int .i64 0, .int .i64 0, .int .i64 0, .int .i64 0, .int .i64 0, .int .i64 0, .slice none 0 0, .bool false]) (t := 51) ?hr ?_; (case hd => rfl); (case hg => rfl); (case hr => first | (go_simp; done) | (go_simp; rfl)); intro gb hg_ w6 hbox hb; have SB := mK (Sn.box (snK S.out) hb hbox (by rw [hg_]; exact (Sn.bel (snK S.out)).size) (by decide)); have BK := Aside0.mk hbox; clear hg_ hbox hb; obtain ⟨_, _, _, _, _, _, _, _, _⟩ := kc9 BK.out; obtain ⟨_, _, _, _, _, _, _, _, _⟩ := kf9 BK.out))
   repeat (go_quiet (fail); try go_wp2)
   (try simp only [Act.put, sq_a, sq_b, sq_c])
   go_cut [7] (fun v7 wc => v7 = .int .i64 (n : Nat) ∧ Aside0 (Sn 5 w w wc [(.slice Ap b.length cb, b)] [(gb, Obj.cells #[.string x.f0, .int .i64 x.f1, .int .i64 x.f2, .int .i64 x.f3.f0, .int .i64 x.f3.f1, .int .i64 x.f3.f2, .int .i64 x.f3.f3, .slice A7 x.f3.f4.length c7, .bool x.f3.f5] 51 (0, 0))]))
   case first =>
    go_wp2
    repeat (go_quiet (fail); try go_wp2)
    go_loopg [7] (min ka.size x.f0.size) (fun gg v7 w' => ∃ i : Nat, i ≤ min ka.size x.f0.size ∧ min ka.size x.f0.size - i ≤ gg ∧ v7 = .int .i64 (i : Nat) ∧ Aside0 (spec_l7Block.pre ka x.f0 (min ka.size x.f0.size - i) i = n) ∧ Aside0 (Sn 5 w w w' [(.slice Ap b.length cb, b)] [(gb, Obj.cells #[.string x.f0, .int .i64 x.f1, .int .i64 x.f2, .int .i64 x.f3.f0, .int .i64 x.f3.f1, .int .i64 x.f3.f2, .int .i64 x.f3.f3, .slice A7 x.f3.f4.length c7, .bool x.f3.f5] 51 (0, 0))]))
    case atStart => exact ⟨0, by omega, by omega, rfl, ⟨HN.out.symm⟩, ⟨by (with_reducible repeat (first | apply Sn.drewN | apply Sn.drew)); exact SB.out.set9 (fun q h => (by cases h))⟩⟩
    case round =>
     clear S SB BK; obtain ⟨i, hi, hgi, rfl, HE, S⟩ := hrel; have he := HE.out
     obtain ⟨_, _, _, _, _, _, _, _, _⟩ := kc9 (S.out.kept _ (List.mem_cons_self ..)).1; obtain ⟨_, _, _, _, _, _, _, _, _⟩ := kf9 (S.out.kept _ (List.mem_cons_self ..)).1
     have hbx : ∀ h : i < ka.size, ((ka[i]'h).toNat : Int) = bt ka (i : Int) := fun h => bt_at ka (i : Int) h
     have hby : ∀ h : i < x.f0.size, ((x.f0[i]'h).toNat : Int) = bt x.f0 (i : Int) := fun h => bt_at x.f0 (i : Int) h
     have hw1 : IntKind.i64.wrap ((i : Int) + 1) = (i : Int) + 1 := by rw [i64_w]; unfold wrap64; omega
     by_cases h1 : (i : Int) < (ka.size : Int)
     case neg =>
      rw [show min ka.size x.f0.size - i = 0 by omega] at he
      unfold spec_l7Block.pre at he
      subst he; have h1b : decide (i < ka.size) = false := decide_eq_false (by omega); (go_wp2; repeat (go_quiet (fail); try go_wp2))
      go_meet
      case rel => exact ⟨rfl, ⟨snK S.out⟩⟩
     have h1b : decide (i < ka.size) = true := decide_eq_true (by omega)
     by_cases h2 : (i : Int) < (x.f0.size : Int)
     case neg =>
      rw [show min ka.size x.f0.size - i = 0 by omega] at he
      unfold spec_l7Block.pre at he
      subst he; have h2b : decide (i < x.f0.size) = false := decide_eq_false (by omega); (go_wp2; repeat (go_quiet (fail); try go_wp2))
      go_meet
      case rel => exact ⟨rfl, ⟨snK S.out⟩⟩
     have h2b : decide (i < x.f0.size) = true := decide_eq_true (by omega); rw [show min ka.size x.f0.size - i = (min ka.size x.f0.size - (i + 1)) + 1 by omega] at he
     unfold spec_l7Block.pre at he
     by_cases h3 : bt ka (i : Int) = bt x.f0 (i : Int)
     ·rw [if_pos h3] at he
      have h3b : (bt ka (i : Int) == bt x.f0 (i : Int)) = true := beq_iff_eq.mpr h3; (go_wp2; repeat (go_quiet (fail); try go_wp2))
      go_roundg (min ka.size x.f0.size - (i + 1))
      case measure => omega
      case rel => exact ⟨i + 1, by omega, by omega, (by (try rw [hw1]); congr 1), ⟨he⟩, ⟨snK S.out⟩⟩
     ·rw [if_neg h3] at he
      subst he; have h3b : (bt ka (i : Int) == bt x.f0 (i : Int)) = false := beq_eq_false_iff_ne.mpr h3; (go_wp2; repeat (go_quiet (fail); try go_wp2))
      go_meet
      case rel => exact ⟨rfl, ⟨snK S.out⟩⟩
   case rest =>
    clear S BK; obtain ⟨rfl, S⟩ := hcut
    obtain ⟨_, _, _, _, _, _, _, _, _⟩ := kc9 (S.out.kept _ (List.mem_cons_self ..)).1; obtain ⟨_, _, _, _, _, _, _, _, _⟩ := kf9 (S.out.kept _ (List.mem_cons_self ..)).1
    go_upto_if 40 with (fail)
    repeat (go_quiet (fail); go_upto_if 40 with (fail))
    go_cut [8] (fun v8 wc => ∃ (Ag : Option Addr) (cg : Nat), v8 = .slice Ag g.length cg ∧ Aside0 (Sn 5 w w wc [(.slice Ap b.length cb, b), (v8, g)] [(gb, Obj.cells #[.string x.f0, .int .i64 x.f1, .int .i64 x.f2, .int .i64 x.f3.f0, .int .i64 x.f3.f1, .int .i64 x.f3.f2, .int .i64 x.f3.f3, .slice A7 x.f3.f4.length c7, .bool x.f3.f5] 51 (0, 0))]))
    case first =>
     have hag := HG.out
     unfold spec_l7Block.agg at hag
     by_cases hk : x.f2 = 2
     ·rw [if_pos hk] at hag
      obtain rfl := Option.some.inj hag; have hkb : (x.f2 == 2) = true := beq_iff_eq.mpr hk; have hkn : (x.f2 != 2) = false := bne_eq_false_iff_eq.mpr hk; (first | rw [hkn] | (simp only [i64_w]; rw [hkn]) | skip); (go_wp2; repeat (go_quiet (fail); try go_wp2))
      go_meet
      case rel => exact ⟨none, 0, rfl, ⟨(show Sn 5 w w _ _ _ from snK S.out).nil.swap⟩⟩
     ·rw [if_neg hk] at hag
      have HAG := Aside0.mk hag; clear hag; have hkb : (x.f2 == 2) = false := beq_eq_false_iff_ne.mpr hk; have hkn : (x.f2 != 2) = true := bne_iff_ne.mpr hk; (first | rw [hkn] | (simp only [i64_w]; rw [hkn]) | skip)
      go_wp2_with (first | (go_at_call 66; refine Sn.call (snK S.out) (spec_l4Bytes.calls k x.f3.f0 x.f3.f1 x.f3.f2 x.f3.f3 _ _ x.f3.f4 x.f3.f5 g _ (Kd.C_below HI.out (Sn.bel (snK S.out))) HL7.out HAG.out) ?_; intro A43 c43 w43 hS_; have SG := Aside0.mk hS_.swap; clear hS_))
      repeat (go_quiet (fail); try go_wp2)
      go_meet
      case rel => exact ⟨_, _, rfl, ⟨snK SG.out⟩⟩
    case rest =>
     clear S; obtain ⟨Ag, cg, rfl, S⟩ := hcut
     obtain ⟨_, _, _, _, _, _, _, _, _⟩ := kc9 (S.out.kept _ (List.mem_cons_self ..)).1; obtain ⟨_, _, _, _, _, _, _, _, _⟩ := kf9 (S.out.kept _ (List.mem_cons_self ..)).1
     have hn0 : (n : Int) ≤ (x.f0.size : Int) := by omega
     have hnt : ((n : Nat) : Int).toNat = n := by omega
     have hu1 : IntKind.u64.wrap (n : Int) = (n : Int) := by simp [IntKind.wrap, IntKind.bits, IntKind.signed]; omega
     have hw2 : IntKind.i64.wrap ((x.f0.size : Int) - (n : Int)) = (x.f0.size : Int) - (n : Int) := by rw [i64_w]; unfold wrap64; omega
     have hu2 : IntKind.u64.wrap ((x.f0.size : Int) - (n : Int)) = (x.f0.size : Int) - (n : Int) := by simp [IntKind.wrap, IntKind.bits, IntKind.signed]; omega
     have hu4 : IntKind.u64.wrap (g.length : Int) = (g.length : Int) := by simp [IntKind.wrap, IntKind.bits, IntKind.signed]; omega
     have hf2 : IntKind.u8.wrap x.f2 = x.f2 % 256 := by simp [IntKind.wrap, IntKind.bits, IntKind.signed]
     have hw3 : IntKind.i64.wrap ((j : Int) + 1) = (j : Int) + 1 := by rw [i64_w]; unfold wrap64; omega
     go_wp2_with (first | (go_at_call 37; refine Sn.call (snK S.out) (spec_PutVar.calls k _ p1 _ HP1.out) ?_; intro A47 c47 w47 hS_; have BK_ := (hS_.kept _ (List.mem_cons_self ..)).1; obtain ⟨_, _, _, _, _, _, _, _, _⟩ := kc9 BK_; obtain ⟨_, _, _, _, _, _, _, _, _⟩ := kf9 BK_; clear BK_; have S1 := Aside0.mk hS_.swap; clear hS_) | ((with_reducible refine gate_builtin (b := .append) (xs := #[.tmp 44, .tmp 47]) rfl ?_); at_builtin; refine Sn.wapp (snK S1.out) rfl (.tmp 44) (.tmp 47) 24 rfl Try.underlying24 info5 rfl rfl (Sn.reads (c := c47) (snK S1.out) (by simp)) (by omega) ?_; intro z1 hz A48 c48 w48 hS_; have BK_ := (hS_.kept _ (List.mem_cons_self ..)).1; obtain ⟨_, _, _, _, _, _, _, _, _⟩ := kc9 BK_; obtain ⟨_, _, _, _, _, _, _, _, _⟩ := kf9 BK_; clear BK_; have Nz1 := Aside0.mk hz; have lz1 : z1.length ≤ 1000000100 := (by rw [hz, List.length_append]; omega); have S2 := Aside0.mk hS_; clear hz hS_) | (go_at_call 37; refine Sn.call (snK S2.out) (spec_PutVar.calls k _ p2 _ HP2.out) ?_; intro A56 c56 w56 hS_; have BK_ := (hS_.kept _ (List.mem_cons_self ..)).1; obtain ⟨_, _, _, _, _, _, _, _, _⟩ := kc9 BK_; obtain ⟨_, _, _, _, _, _, _, _, _⟩ := kf9 BK_; clear BK_; have S3 := Aside0.mk hS_.swap; clear hS_) | ((with_reducible refine gate_builtin (b := .append) (xs := #[.tmp 49, .tmp 56]) rfl ?_); at_builtin; refine Sn.wapp (snK S3.out) rfl (.tmp 49) (.tmp 56) 24 rfl Try.underlying24 info5 rfl rfl (Sn.reads (c := c56) (snK S3.out) (by simp)) (by omega) ?_; intro z2 hz A57 c57 w57 hS_; have BK_ := (hS_.kept _ (List.mem_cons_self ..)).1; obtain ⟨_, _, _, _, _, _, _, _, _⟩ := kc9 BK_; obtain ⟨_, _, _, _, _, _, _, _, _⟩ := kf9 BK_; clear BK_; have Nz2 := Aside0.mk hz; have lz2 : z2.length ≤ 1000000200 := (by rw [hz, List.length_append]; omega); have S4 := Aside0.mk hS_; clear hz hS_) | (go_at_call 37; refine Sn.call (snK S4.out) (spec_PutVar.calls k _ p3 _ HP3.out) ?_; intro A62 c62 w62 hS_; have BK_ := (hS_.kept _ (List.mem_cons_self ..)).1; obtain ⟨_, _, _, _, _, _, _, _, _⟩ := kc9 BK_; obtain ⟨_, _, _, _, _, _, _, _, _⟩ := kf9 BK_; clear BK_; have S5 := Aside0.mk hS_.swap; clear hS_) | ((with_reducible refine gate_builtin (b := .append) (xs := #[.tmp 58, .tmp 62]) rfl ?_); at_builtin; refine Sn.wapp (snK S5.out) rfl (.tmp 58) (.tmp 62) 24 rfl Try.underlying24 info5 rfl rfl (Sn.reads (c := c62) (snK S5.out) (by simp)) (by omega) ?_; intro z3 hz A63 c63 w63 hS_; have BK_ := (hS_.kept _ (List.mem_cons_self ..)).1; obtain ⟨_, _, _, _, _, _, _, _, _⟩ := kc9 BK_; obtain ⟨_, _, _, _, _, _, _, _, _⟩ := kf9 BK_; clear BK_; have Nz3 := Aside0.mk hz; have lz3 : z3.length ≤ 1000000300 := (by rw [hz, List.length_append]; omega); have S6 := Aside0.mk hS_; clear hz hS_) | ((with_reducible refine gate_dst (N := 68) rfl ?_); refine Sn.wlit (e := 5) (y := [x.f2 % 256]) (snK S6.out) rfl (N := 68) rfl (by first | (go_simp; done) | (go_simp; rfl)) (by simp) ?_; intro A68 c68 w68 hS_; have BK_ := (hS_.kept _ (List.mem_cons_self ..)).1; obtain ⟨_, _, _, _, _, _, _, _, _⟩ := kc9 BK_; obtain ⟨_, _, _, _, _, _, _, _, _⟩ := kf9 BK_; clear BK_; have S7 := Aside0.mk hS_.swap; clear hS_) | ((with_reducible refine gate_builtin (b := .append) (xs := #[.tmp 64, .tmp 68]) rfl ?_); at_builtin; refine Sn.wapp (snK S7.out) rfl (.tmp 64) (.tmp 68) 24 rfl Try.underlying24 info5 rfl rfl (Sn.reads (c := c68) (snK S7.out) (by simp)) (by simp only [List.length_cons, List.length_nil]; omega) ?_; intro z4 hz A69 c69 w69 hS_; have BK_ := (hS_.kept _ (List.mem_cons_self ..)).1; obtain ⟨_, _, _, _, _, _, _, _, _⟩ := kc9 BK_; obtain ⟨_, _, _, _, _, _, _, _, _⟩ := kf9 BK_; clear BK_; have Nz4 := Aside0.mk hz; have lz4 : z4.length ≤ 1000000301 := (by rw [hz, List.length_append]; simp only [List.length_cons, List.length_nil]; omega); have S8 := Aside0.mk hS_; clear hz hS_) | (go_at_call 37; refine Sn.call (snK S8.out) (spec_PutVar.calls k _ p4 _ HP4.out) ?_; intro A74 c74 w74 hS_; have BK_ := (hS_.kept _ (List.mem_cons_self ..)).1; obtain ⟨_, _, _, _, _, _, _, _, _⟩ := kc9 BK_; obtain ⟨_, _, _, _, _, _, _, _, _⟩ := kf9 BK_; clear BK_; have S9 := Aside0.mk hS_.swap; clear hS_) | ((with_reducible refine gate_builtin (b := .append) (xs := #[.tmp 70, .tmp 74]) rfl ?_); at_builtin; refine Sn.wapp (snK S9.out) rfl (.tmp 70) (.tmp 74) 24 rfl Try.underlying24 info5 rfl rfl (Sn.reads (c := c74) (snK S9.out) (by simp)) (by omega) ?_; intro z5 hz A75 c75 w75 hS_; have BK_ := (hS_.kept _ (List.mem_cons_self ..)).1; obtain ⟨_, _, _, _, _, _, _, _, _⟩ := kc9 BK_; obtain ⟨_, _, _, _, _, _, _, _, _⟩ := kf9 BK_; clear BK_; have Nz5 := Aside0.mk hz; have lz5 : z5.length ≤ 1000000401 := (by rw [hz, List.length_append]; omega); have Sa := Aside0.mk hS_; clear hz hS_) | ((with_reducible refine gate_builtin (b := .append) (xs := #[.tmp 76, .tmp 80]) rfl ?_); at_builtin; refine Sn.wstr (snK Sa.out) rfl (.tmp 76) (.tmp 80) 24 9 rfl Try.underlying24 Try.underlying9 info5 (x.f0.extract n x.f0.size) rfl rfl (by rw [hxs]; omega) ?_; intro z6 hz A81 c81 w81 hS_; have BK_ := (hS_.kept _ (List.mem_cons_self ..)).1; obtain ⟨_, _, _, _, _, _, _, _, _⟩ := kc9 BK_; obtain ⟨_, _, _, _, _, _, _, _, _⟩ := kf9 BK_; clear BK_; have Nz6 := Aside0.mk hz; have lz6 : z6.length ≤ 1001000401 := (by rw [hz, List.length_append, bytesOf_length, hxs]; omega); have Sb := Aside0.mk hS_; clear hz hS_) | ((with_reducible refine gate_builtin (b := .append) (xs := #[.tmp 82, .tmp 83]) rfl ?_); at_builtin; refine Sn.wapp (snK Sb.out) rfl (.tmp 82) (.tmp 83) 24 rfl Try.underlying24 info5 rfl rfl (Sn.reads (c := cg) (snK Sb.out) (by simp)) (by omega) ?_; intro z7 hz A84 c84 w84 hS_; have BK_ := (hS_.kept _ (List.mem_cons_self ..)).1; obtain ⟨_, _, _, _, _, _, _, _, _⟩ := kc9 BK_; obtain ⟨_, _, _, _, _, _, _, _, _⟩ := kf9 BK_; clear BK_; have Nz7 := Aside0.mk hz; have S_e := Aside0.mk hS_; clear hz hS_))
     go_roundg (l0.length - (j + 1))
     case measure => omega
     case rel =>
      refine ⟨j + 1, _, _, z7, by omega, by omega, rfl, congrArg Value.string HK.out.symm, (by (try rw [hw3]); congr 1), ⟨?_⟩, ⟨by (with_reducible repeat (first | apply Sn.drewN | apply Sn.drew)); exact (S_e.out.sub (List.sublist_append_left [_] _)).keep (K' := []) (fun _ h => (by cases h))⟩⟩; rw [HB2.out, Nz7.out, Nz6.out, Nz5.out, Nz4.out, Nz3.out, Nz2.out, Nz1.out]; simp only [List.append_assoc]
  ·obtain rfl : j = l0.length := by omega
   have hst := Option.some.inj (HB.out.symm.trans HRUN.out); subst hst
   go_wp2
   go_ret
   exact ⟨_, rfl, S.out.row _ (List.mem_cons_self ..), S.out.bel⟩
end
/-! ### spec_l6Hash: function 95 -/
def spec_l6Hash.l0 : Nat → ByteArray → Int → Int → Option (Int)
 | 0, _, _, _ => none
 | k + 1, x0, x5, x6 => if x6 < (x0.size : Int) then (if 0 ≤ x6 then (spec_l6Hash.l0 k x0 (((Go.bits .xor .u32 x5 ((bt x0 x6) % 4294967296)) * 16777619) % 4294967296) (wrap64 (x6 + 1))) else (none)) else (some (Go.bits .xor .u32 x5 (x5 / 32768)))
def spec_l6Hash.f (k : Nat) (a0 : ByteArray) (a1 : Int) : Option (Int) := spec_l6Hash.l0 k a0 ((2166136261 + (((a1) % 4294967296) * 40503)) % 4294967296) 0
set_option maxHeartbeats 8000000 in
set_option maxRecDepth 100000 in
theorem spec_l6Hash.calls (k : Nat) (a0 : ByteArray) (a1 : Int) (r : Int) (w : World) (h : spec_l6Hash.f k a0 a1 = some r) :
  Calls Try.prog 95 #[.string a0, .int .i64 a1] w fun e w' => e = .returned (.int .u32 r) ∧ Drawn0 w w' := by
 have H : (spec_l6Hash.l0 k a0 ((2166136261 + (((a1) % 4294967296) * 40503)) % 4294967296) 0) = some r := h
 clear h
 have H' := Aside0.mk H
 clear H
 go_enter Try.func95, Try.ntmps95
 go_wp2
 go_loopg [5, 6] k (fun kq v5 v6 w' => ∃ (x5_1 : Int) (x6_1 : Int), v5 = .int .u32 x5_1 ∧ v6 = .int .i64 x6_1 ∧ Aside0 (spec_l6Hash.l0 kq a0 x5_1 x6_1 = some r) ∧ Aside0 (kq ≤ k) ∧ Drawn0 w w')
 case atStart => exact ⟨((2166136261 + (((a1) % 4294967296) * 40503)) % 4294967296), (0), sE, sE, H', ⟨Nat.le_refl _⟩, dR⟩
 case round =>
  clear H'
  try clear p2
  obtain ⟨x5_1, x6_1, rfl, rfl, HA, HK1, ⟨m1, rfl⟩⟩ := hrel
  cases gk with
  | zero => exact absurd HA.out (by simp [spec_l6Hash.l0])
  | succ k1 =>
   have H := HA.out; clear HA; simp only [spec_l6Hash.l0] at H
   by_cases c3 : x6_1 < (a0.size : Int)
   ·rw [if_pos c3] at H
    have c3b0 : decide (x6_1 < (a0.size : Int)) = true := decide_eq_true c3; clear c3
    by_cases c4 : 0 ≤ x6_1
    ·rw [if_pos c4] at H
     have c4b0 : decide (0 ≤ x6_1) = true := decide_eq_true c4; clear c4; have H' := Aside0.mk H; clear H; have p5 : 0 ≤ (x6_1 : Int) := oD; have q5 : x6_1 < (a0.size : Int) := oD; have hx5 := bt_at a0 x6_1; replace p5 := eq_true p5; replace q5 := eq_true q5
     go_wp2
     go_roundg k1
     case measure => have := HK1.out; omega
     case rel => exact ⟨(((Go.bits .xor .u32 x5_1 ((bt a0 x6_1) % 4294967296)) * 16777619) % 4294967296), (wrap64 (x6_1 + 1)), sE, sE, H', ⟨by have := HK1.out; omega⟩, dR⟩
    ·rw [if_neg c4] at H; exact absurd H (by simp)
   ·rw [if_neg c3] at H
    have c3b0 : decide (x6_1 < (a0.size : Int)) = false := decide_eq_false c3; clear c3; obtain rfl := Option.some.inj H
    go_wp2
    go_ret
    exact ⟨sE, dR⟩
/-! ### spec_l6Places: function 67 -/
def spec_l6Places.l0 : Nat → Int → Int → Int → Int → List Int → Int → Option (List Int)
 | 0, _, _, _, _, _, _ => none
 | k + 1, x1, x2, x7, x8, x9, x10 => if x10 < x1 then (if ((wrap64 (8 * x2)) % 4294967296) = 0 then (none) else (if x9.length < 17592186044416 then (spec_l6Places.l0 k x1 x2 ((x7 + x8) % 4294967296) x8 (x9 ++ [wrap64 (Int.tmod x7 ((wrap64 (8 * x2)) % 4294967296))]) (wrap64 (x10 + 1))) else (none))) else (some x9)
def spec_l6Places.f (k : Nat) (a0 : ByteArray) (a1 : Int) (a2 : Int) : Option (List Int) := (spec_l6Hash.f k a0 0).bind fun t157 => ((spec_l6Hash.f k a0 1).bind fun t158 => (spec_l6Places.l0 k a1 a2 t157 t158 ([] : List Int) 0))
set_option maxHeartbeats 8000000 in
set_option maxRecDepth 100000 in
theorem spec_l6Places.calls (k : Nat) (a0 : ByteArray) (a1 : Int) (a2 : Int) (r : List Int) (w : World) (h : spec_l6Places.f k a0 a1 a2 = some r) :
  Calls Try.prog 67 #[.string a0, .int .i64 a1, .int .i64 a2] w fun e w' => ∃ v0_ : Value, e = .returned (v0_) ∧ Kd.R (Kd.int .i64) 3 w' w.heap.size (fun _ => True) v0_ r ∧ Below w.heap.size w w' := by
 have HB := mK (Below.refl w.heap.size w)
 have H : ((spec_l6Hash.f k a0 0).bind fun t157 => ((spec_l6Hash.f k a0 1).bind fun t158 => (spec_l6Places.l0 k a1 a2 t157 t158 ([] : List Int) 0))) = some r := h
 clear h
 replace H := Option.bind_eq_some_iff.mp H
 obtain ⟨t157, A40, H⟩ := H
 (try dsimp only at H)
 have A4 := Aside0.mk A40
 clear A40
 replace H := Option.bind_eq_some_iff.mp H
 obtain ⟨t158, A50, H⟩ := H
 (try dsimp only at H)
 have A5 := Aside0.mk A50
 clear A50
 have H' := Aside0.mk H
 clear H
 go_enter Try.func67, Try.ntmps67
 go_wp2_with (first | ((with_reducible refine gate_callee (f := 95) rfl ?_); refine gL (some 12) Try.func95 #[.string a0, .int .i64 0] ?_; (with_reducible refine (spec_l6Hash.calls k a0 0 t157 _ A4.out).mono ?_); rintro e w' ⟨rfl, ⟨nd, rfl⟩⟩; refine ⟨_, rfl, ?_⟩) | ((with_reducible refine gate_callee (f := 95) rfl ?_); refine gL (some 14) Try.func95 #[.string a0, .int .i64 1] ?_; (with_reducible refine (spec_l6Hash.calls k a0 1 t158 _ A5.out).mono ?_); rintro e w' ⟨rfl, ⟨nd, rfl⟩⟩; refine ⟨_, rfl, ?_⟩))
 go_loopg [7, 9, 10] k (fun kq v7 v9 v10 w' => ∃ (x7_1 : Int) (x9_1 : List Int) (x10_1 : Int), v7 = .int .u32 x7_1 ∧ v10 = .int .i64 x10_1 ∧ Aside0 (spec_l6Places.l0 kq a1 a2 x7_1 t158 x9_1 x10_1 = some r) ∧ Aside0 (kq ≤ k) ∧ Aside0 (Kd.R (Kd.int .i64) 3 w' w.heap.size (fun _ => True) v9 x9_1) ∧ Aside0 (Below w.heap.size w w'))
 case atStart => exact ⟨(t157), (([] : List Int)), (0), sE, sE, H', ⟨Nat.le_refl _⟩, ⟨by first | exact Kd.R_nil _ _ _ _ _ | exact Kd.N_nil _ _ _ _ _ | exact Kd.V_nil _ _ _ _ _ | exact Kd.Q_nil _ _ _ _ _ | exact Kd.S_nil _ _ _ _ _⟩, ⟨bL HB.out⟩⟩
 case round =>
  clear H'
  try clear p2
  obtain ⟨x7_1, x9_1, x10_1, rfl, rfl, HA, HK1, HO_9, HB⟩ := hrel
  cases gk with
  | zero => exact absurd HA.out (by simp [spec_l6Places.l0])
  | succ k1 =>
   have H := HA.out; clear HA; simp only [spec_l6Places.l0] at H
   by_cases c6 : x10_1 < a1
   ·rw [if_pos c6] at H
    have c6b0 : decide (x10_1 < a1) = true := decide_eq_true c6; clear c6
    by_cases c7 : ((wrap64 (8 * a2)) % 4294967296) = 0
    ·rw [if_pos c7] at H; exact absurd H (by simp)
    ·rw [if_neg c7] at H
     have c7b0 : (((wrap64 (8 * a2)) % 4294967296) == 0) = false := beq_eq_false_iff_ne.mpr c7; have c7b1 : (((wrap64 (8 * a2)) % 4294967296) != 0) = true := bne_iff_ne.mpr c7
     by_cases c8 : x9_1.length < 17592186044416
     ·rw [if_pos c8] at H
      have LMc8 := Aside0.mk c8; clear c8; obtain ⟨y159, hy159⟩ : ∃ y_ : List Int, y_ = (x9_1 ++ [wrap64 (Int.tmod x7_1 ((wrap64 (8 * a2)) % 4294967296))]) := ⟨_, rfl⟩
      replace H : (spec_l6Places.l0 k1 a1 a2 ((x7_1 + t158) % 4294967296) t158 y159 (wrap64 (x10_1 + 1))) = some r := by first | (rw [hy159]; with_reducible exact H) | (have H2_ := (Option.bind_some _ _).symm.trans H; rw [hy159]; with_reducible exact H2_) | (have H2_ := (Option.bind_some _ _).symm.trans H; with_reducible exact H2_) | with_reducible exact H | (rw [hy159]; exact H) | exact H
      have Ny159 := Aside0.mk hy159; clear hy159; have H' := Aside0.mk H; clear H
      go_wp2_with (first | ((with_reducible refine gate_builtin (b := .append) (xs := #[.tmp 20, .tmp 27]) rfl ?_); at_builtin; refine Kd.R_append (Kd.int .i64) (w0 := w) w.heap.size rfl (.tmp 20) (.tmp 27) 41 3 (.int .i64 0) 8 rfl Try.underlying41 info3 rfl (by decide) (by omega) u9 x9_1 (wrap64 (Int.tmod x7_1 ((wrap64 (8 * a2)) % 4294967296))) [.int .i64 (wrap64 (Int.tmod x7_1 ((wrap64 (8 * a2)) % 4294967296)))] (fun _ => True) (fun _ => False) rfl rfl ?aP (fun _ hk => hk.elim) ?aF ?aO ?aB ?aS ?aL ?_; (case aP => exact rfl); (case aB => exact (bL HB.out)); (case aF => exact (fun _ _ => trivial)); (case aO => exact (rK HO_9.out)); (case aS => exact (below_size (bL HB.out))); (case aL => have := LMc8.out; omega); intro v160 w9 ho hb hg hat; rw [← Ny159.out] at ho; have _ := mK (hb); have _ := mK (ho); clear HB HO_9; rename_i HB HO161; clear ho hb hg hat))
      go_roundg k1
      case measure => have := HK1.out; omega
      case rel => exact ⟨((x7_1 + t158) % 4294967296), (y159), (wrap64 (x10_1 + 1)), sE, sE, H', ⟨by have := HK1.out; omega⟩, ⟨rK HO161.out⟩, ⟨bL HB.out⟩⟩
     ·rw [if_neg c8] at H; exact absurd H (by simp)
   ·rw [if_neg c6] at H
    have c6b0 : decide (x10_1 < a1) = false := decide_eq_false c6; clear c6; obtain rfl := Option.some.inj H
    go_wp2
    go_ret
    exact ⟨_, sE, rK HO_9.out, bL HB.out⟩
end Go.Proofs.Ytllmlnagihlokaa.PFnExactBoundsOf
