-- Written by a program of this session.
import Derived.Test.YtllmlnagihlokaaPFnExactBoundsOfx0
import Derived.Test.YtllmlnagihlokaaPFnExactBoundsOfx3
import Derived.Test.YtllmlnagihlokaaPFnExactBoundsOfx4
import Derived.Test.YtllmlnagihlokaaPFnExactBoundsOfx5
namespace Go.Proofs.Ytllmlnagihlokaa.PFnExactBoundsOf
open Go.RowKit Go.Proofs.YtllmlnagihlokaaW.PrintWords Go.Proofs.YtllmlnagihlokaaW.PrintLast Go.Proofs.YtllmlnagihlokaaW.PrintMore
attribute [local go_sem] max2_int min2_int max_two min_two max_three min_three max_four min_four hw_string_geq hw_string_gtr hw_string_leq
set_option linter.unusedVariables false
set_option linter.unusedSimpArgs false
/-! ### spec_l7Keys: function 39 -/
def spec_l7Keys.l0 : Nat → List (S51) → List ByteArray → List (S51) → Int → Int → Option (List ByteArray)
 | 0, _, _, _, _, _ => none
 | k + 1, x0, x3, x6, x7, x8 => if x8 < x7 then (if 0 ≤ x8 then (if x8 < (x6.length : Int) then (if x8 = 0 then (if x3.length < 8796093022208 then (spec_l7Keys.l0 k x0 (x3 ++ [(rd_T51 x6 x8).f0]) x6 x7 (wrap64 (x8 + 1))) else (none)) else (if 0 ≤ (wrap64 (x8 - 1)) then (if (wrap64 (x8 - 1)) < (x0.length : Int) then (if ((rd_T51 x0 (wrap64 (x8 - 1))).f0).toList = ((rd_T51 x6 x8).f0).toList then (spec_l7Keys.l0 k x0 x3 x6 x7 (wrap64 (x8 + 1))) else (if x3.length < 8796093022208 then (spec_l7Keys.l0 k x0 (x3 ++ [(rd_T51 x6 x8).f0]) x6 x7 (wrap64 (x8 + 1))) else (none))) else (none)) else (none))) else (none)) else (none)) else (some x3)
def spec_l7Keys.f (k : Nat) (l0 : List (S51)) : Option (List ByteArray) := spec_l7Keys.l0 k l0 ([] : List ByteArray) l0 (l0.length : Int) 0
set_option maxHeartbeats 8000000 in
set_option maxRecDepth 100000 in
theorem spec_l7Keys.calls (k : Nat) (A0 : Option Addr) (c0 : Nat) (l0 : List (S51)) (r : List ByteArray) (w : World) (hr0 : Kd.C k51 w A0 l0.length l0) (hc0 : l0.length ≤ c0) (h : spec_l7Keys.f k l0 = some r) :
  Calls Try.prog 39 #[.slice A0 l0.length c0] w fun e w' => ∃ v0_ : Value, e = .returned (v0_) ∧ Kd.R Kd.string 9 w' w.heap.size (fun _ => True) v0_ r ∧ Below w.heap.size w w' := by
 have hu51 := Try.underlying51
 have HR0 := Aside0.mk hr0
 have HC0 := Aside0.mk hc0
 clear hr0 hc0
 have HB := mK (Below.refl w.heap.size w)
 have H : (spec_l7Keys.l0 k l0 ([] : List ByteArray) l0 (l0.length : Int) 0) = some r := h
 clear h
 have H' := Aside0.mk H
 clear H
 go_enter Try.func39, Try.ntmps39
 go_wp2
 repeat (go_quiet (fail); try go_wp2)
 go_loopg [3, 8] k (fun kq v3 v8 w' => ∃ (x3_1 : List ByteArray) (x8_1 : Int), v8 = .int .i64 x8_1 ∧ Aside0 (spec_l7Keys.l0 kq l0 x3_1 l0 (l0.length : Int) x8_1 = some r) ∧ Aside0 (kq ≤ k) ∧ Aside0 (Kd.R Kd.string 9 w' w.heap.size (fun _ => True) v3 x3_1) ∧ Aside0 (Below w.heap.size w w'))
 case atStart => exact ⟨(([] : List ByteArray)), (0), sE, H', ⟨Nat.le_refl _⟩, ⟨by first | exact Kd.R_nil _ _ _ _ _ | exact Kd.N_nil _ _ _ _ _ | exact Kd.V_nil _ _ _ _ _ | exact Kd.Q_nil _ _ _ _ _ | exact Kd.S_nil _ _ _ _ _⟩, ⟨bL HB.out⟩⟩
 case round =>
  clear H'; obtain ⟨x3_1, x8_1, rfl, HA, HK1, HO_3, HB⟩ := hrel
  cases gk with
  | zero => exact absurd HA.out (by simp [spec_l7Keys.l0])
  | succ k1 =>
   have H := HA.out; clear HA; simp only [spec_l7Keys.l0] at H
   by_cases c2 : x8_1 < (l0.length : Int)
   ·rw [if_pos c2] at H
    have c2b0 : decide (x8_1 < (l0.length : Int)) = true := decide_eq_true c2; clear c2
    by_cases c3 : 0 ≤ x8_1
    ·rw [if_pos c3] at H
     have c3b0 : decide (0 ≤ x8_1) = true := decide_eq_true c3; clear c3
     by_cases c4 : x8_1 < (l0.length : Int)
     ·rw [if_pos c4] at H
      have c4b0 : decide (x8_1 < (l0.length : Int)) = true := decide_eq_true c4; clear c4
      by_cases c5 : x8_1 = 0
      ·rw [if_pos c5] at H
       have c5b0 : (x8_1 == 0) = true := beq_iff_eq.mpr c5; have c5b1 : (x8_1 != 0) = false := bne_eq_false_iff_eq.mpr c5; clear c5
       by_cases c6 : x3_1.length < 8796093022208
       ·rw [if_pos c6] at H
        have LMc6 := Aside0.mk c6; clear c6; obtain ⟨y176, hy176⟩ : ∃ y_ : List ByteArray, y_ = (x3_1 ++ [(rd_T51 l0 x8_1).f0]) := ⟨_, rfl⟩
        replace H : (spec_l7Keys.l0 k1 l0 y176 l0 (l0.length : Int) (wrap64 (x8_1 + 1))) = some r := by first | (rw [hy176]; with_reducible exact H) | (have H2_ := (Option.bind_some _ _).symm.trans H; rw [hy176]; with_reducible exact H2_) | (have H2_ := (Option.bind_some _ _).symm.trans H; with_reducible exact H2_) | with_reducible exact H | (rw [hy176]; exact H) | exact H
        have Ny176 := Aside0.mk hy176; clear hy176; have H' := Aside0.mk H; clear H; have p174 : 0 ≤ (x8_1 : Int) := oD; have q174 : x8_1 < (l0.length : Int) := oD; obtain ⟨ad174, A174_7, c174_7, e174, hx174_0, hx174_1, hx174_2, hx174_3, hx174_4, hx174_5, hx174_6, hx174_7, hx174_8, hl174_7, hi174_7⟩ := at_T51B HR0.out HB.out x8_1 p174 q174
        cases e174
        have HR174_7 := Aside0.mk hi174_7; have HC174_7 := Aside0.mk hl174_7; clear hi174_7 hl174_7; replace p174 := eq_true p174; replace q174 := eq_true q174
        go_wp2_with (first | ((with_reducible refine gate_dst (N := 5) rfl ?_); refine box_event ?hg (N := 5) ?hd (cs := #[.string (⟨#[]⟩ : ByteArray), .int .i64 0, .int .i64 0, .int .i64 0, .int .i64 0, .int .i64 0, .int .i64 0, .slice none 0 0, .bool false]) (t := 51) ?hr ?_; (case hd => rfl); (case hg => rfl); (case hr => first | (go_simp; done) | (go_simp; rfl)); intro gb175 hg w7 hbox hb; have _ := mK (Kd.R_below (rK HO_3.out) hb); have _ := mK (below_step (bL HB.out) hb); have _ := mK (hbox); have _ := mK (sL hg (bL HB.out)); have _ := mK (sL hg (bL HB.out)); clear HO_3 HB; rename_i HO_3 HB BK175 GW175 GE175; clear hb hbox hg; obtain ⟨_, _, _, _, _, _, _, _, _⟩ := kc9 BK175.out; obtain ⟨_, _, _, _, _, _, _, _, _⟩ := kf9 BK175.out) | ((with_reducible refine gate_builtin (b := .append) (xs := #[.tmp 26, .tmp 29]) rfl ?_); at_builtin; refine Kd.R_append Kd.string (w0 := w) w.heap.size rfl (.tmp 26) (.tmp 29) 66 9 (.string ⟨#[]⟩) 16 rfl Try.underlying66 info9 rfl (by decide) (by omega) u3 x3_1 ((rd_T51 l0 x8_1).f0) [.string ((rd_T51 l0 x8_1).f0)] (fun _ => True) (fun _ => False) rfl (by first | (go_simp; done) | (go_simp; rfl)) ?aP (fun _ hk => hk.elim) ?aF ?aO ?aB ?aS ?aL ?_; (case aP => exact rfl); (case aB => exact (bL HB.out)); (case aF => exact (fun _ _ => trivial)); (case aO => exact (Kd.R_mono (rS HO_3.out BK175.out) (fun _ _ => trivial))); (case aS => exact (below_size (bL HB.out))); (case aL => have := LMc6.out; omega); intro v177 w9 ho hb hg hat; rw [← Ny176.out] at ho; have _ := mK (blk_grown (bK (p9 BK175.out)) hg (Kd.R_ne HO_3.out BK175.out (by decide))); have _ := mK (hb); have _ := mK (ho); clear BK175 HB HO_3; rename_i BK175 HB HO178; clear ho hb hg hat) | go_values | go_skip | go_guarded | go_step | go_upon | go_back | go_quiet (fail))
        go_roundg k1
        case measure => have := HK1.out; omega
        case rel => exact ⟨(y176), (wrap64 (x8_1 + 1)), sE, H', ⟨by have := HK1.out; omega⟩, ⟨rK HO178.out⟩, ⟨bL HB.out⟩⟩
       ·rw [if_neg c6] at H; exact absurd H (by simp)
      ·rw [if_neg c5] at H
       have c5b0 : (x8_1 == 0) = false := beq_eq_false_iff_ne.mpr c5; have c5b1 : (x8_1 != 0) = true := bne_iff_ne.mpr c5; obtain ⟨ji10, hji10⟩ : ∃ j_ : Int, (wrap64 (x8_1 - 1)) = j_ := ⟨_, rfl⟩
       replace H : (if 0 ≤ (ji10) then (if (ji10) < (l0.length : Int) then (if ((rd_T51 l0 (ji10)).f0).toList = ((rd_T51 l0 x8_1).f0).toList then (spec_l7Keys.l0 k1 l0 x3_1 l0 (l0.length : Int) (wrap64 (x8_1 + 1))) else (if x3_1.length < 8796093022208 then (spec_l7Keys.l0 k1 l0 (x3_1 ++ [(rd_T51 l0 x8_1).f0]) l0 (l0.length : Int) (wrap64 (x8_1 + 1))) else (none))) else (none)) else (none)) = some r := by first | (rw [hji10] at H; exact H) | (simp only [hji10] at H ⊢; exact H)
       have hji10w : (IntKind.i64.wrap (x8_1 - 1)) = ji10 := (i64_w _).trans hji10
       by_cases c11 : 0 ≤ (ji10)
       ·rw [if_pos c11] at H
        have c11b0 : decide (0 ≤ (ji10)) = true := decide_eq_true c11; clear c11
        by_cases c12 : (ji10) < (l0.length : Int)
        ·rw [if_pos c12] at H
         have c12b0 : decide ((ji10) < (l0.length : Int)) = true := decide_eq_true c12; clear c12
         by_cases c13 : ((rd_T51 l0 (ji10)).f0).toList = ((rd_T51 l0 x8_1).f0).toList
         ·rw [if_pos c13] at H
          have c13b0 : (((rd_T51 l0 (ji10)).f0).toList == ((rd_T51 l0 x8_1).f0).toList) = true := beq_iff_eq.mpr c13; have c13b1 : (((rd_T51 l0 (ji10)).f0).toList != ((rd_T51 l0 x8_1).f0).toList) = false := bne_eq_false_iff_eq.mpr c13; clear c13; have H' := Aside0.mk H; clear H; have p174 : 0 ≤ (x8_1 : Int) := oD; have q174 : x8_1 < (l0.length : Int) := oD; obtain ⟨ad174, A174_7, c174_7, e174, hx174_0, hx174_1, hx174_2, hx174_3, hx174_4, hx174_5, hx174_6, hx174_7, hx174_8, hl174_7, hi174_7⟩ := at_T51B HR0.out HB.out x8_1 p174 q174
          cases e174
          have HR174_7 := Aside0.mk hi174_7; have HC174_7 := Aside0.mk hl174_7; clear hi174_7 hl174_7; replace p174 := eq_true p174; replace q174 := eq_true q174
          go_wp2_with (first | ((with_reducible refine gate_dst (N := 5) rfl ?_); refine box_event ?hg (N := 5) ?hd (cs := #[.string (⟨#[]⟩ : ByteArray), .int .i64 0, .int .i64 0, .int .i64 0, .int .i64 0, .int .i64 0, .int .i64 0, .slice none 0 0, .bool false]) (t := 51) ?hr ?_; (case hd => rfl); (case hg => rfl); (case hr => first | (go_simp; done) | (go_simp; rfl)); intro gb175 hg w14 hbox hb; have _ := mK (Kd.R_below (rK HO_3.out) hb); have _ := mK (below_step (bL HB.out) hb); have _ := mK (hbox); have _ := mK (sL hg (bL HB.out)); have _ := mK (sL hg (bL HB.out)); clear HO_3 HB; rename_i HO_3 HB BK175 GW175 GE175; clear hb hbox hg; obtain ⟨_, _, _, _, _, _, _, _, _⟩ := kc9 BK175.out; obtain ⟨_, _, _, _, _, _, _, _, _⟩ := kf9 BK175.out; have p179 : 0 ≤ ((ji10) : Int) := oD; have q179 : (ji10) < (l0.length : Int) := oD; obtain ⟨ad179, A179_7, c179_7, e179, hx179_0, hx179_1, hx179_2, hx179_3, hx179_4, hx179_5, hx179_6, hx179_7, hx179_8, hl179_7, hi179_7⟩ := at_T51G HR0.out HB.out GW175.out (.string ((rd_T51 l0 x8_1).f0)) (.int .i64 ((rd_T51 l0 x8_1).f1)) (.int .i64 ((rd_T51 l0 x8_1).f2)) (.int .i64 ((rd_T51 l0 x8_1).f3.f0)) (.int .i64 ((rd_T51 l0 x8_1).f3.f1)) (.int .i64 ((rd_T51 l0 x8_1).f3.f2)) (.int .i64 ((rd_T51 l0 x8_1).f3.f3)) (.slice A174_7 ((rd_T51 l0 x8_1).f3.f4).length c174_7) (.bool ((rd_T51 l0 x8_1).f3.f5)) (ji10) p179 q179; obtain rfl : ad174 = ad179 := (by injection e179); have HR179_7 := Aside0.mk hi179_7; have HC179_7 := Aside0.mk hl179_7; clear hi179_7 hl179_7; (try (have hy179_0 := fun (n_ : Nat) => cell_drewN_of n_ hx179_0; simp only [drewN_setCell] at hy179_0)); (try (have hy179_1 := fun (n_ : Nat) => cell_drewN_of n_ hx179_1; simp only [drewN_setCell] at hy179_1)); (try (have hy179_2 := fun (n_ : Nat) => cell_drewN_of n_ hx179_2; simp only [drewN_setCell] at hy179_2)); (try (have hy179_3 := fun (n_ : Nat) => cell_drewN_of n_ hx179_3; simp only [drewN_setCell] at hy179_3)); (try (have hy179_4 := fun (n_ : Nat) => cell_drewN_of n_ hx179_4; simp only [drewN_setCell] at hy179_4)); (try (have hy179_5 := fun (n_ : Nat) => cell_drewN_of n_ hx179_5; simp only [drewN_setCell] at hy179_5)); (try (have hy179_6 := fun (n_ : Nat) => cell_drewN_of n_ hx179_6; simp only [drewN_setCell] at hy179_6)); (try (have hy179_7 := fun (n_ : Nat) => cell_drewN_of n_ hx179_7; simp only [drewN_setCell] at hy179_7)); (try (have hy179_8 := fun (n_ : Nat) => cell_drewN_of n_ hx179_8; simp only [drewN_setCell] at hy179_8)); replace p179 := eq_true p179; replace q179 := eq_true q179) | go_values | go_skip | go_guarded | go_step | go_upon | go_back | go_quiet (fail))
          go_roundg k1
          case measure => have := HK1.out; omega
          case rel => exact ⟨(x3_1), (wrap64 (x8_1 + 1)), sE, H', ⟨by have := HK1.out; omega⟩, ⟨by (with_reducible repeat (first | apply Kd.R_alloc | apply Kd.R_drewN | apply Kd.R_drew)); exact Kd.R_mono (Kd.R_far (p := ⟨gb175, 8, none⟩) (Kd.R_far (p := ⟨gb175, 7, none⟩) (Kd.R_far (p := ⟨gb175, 6, none⟩) (Kd.R_far (p := ⟨gb175, 5, none⟩) (Kd.R_far (p := ⟨gb175, 4, none⟩) (Kd.R_far (p := ⟨gb175, 3, none⟩) (Kd.R_far (p := ⟨gb175, 2, none⟩) (Kd.R_far (p := ⟨gb175, 1, none⟩) (Kd.R_far (p := ⟨gb175, 0, none⟩) (Kd.R_types HO_3.out BK175.out (by decide)) (fun _ hk => hk.2) (.string ((rd_T51 l0 x8_1).f0))) (fun _ hk => hk.2) (.int .i64 ((rd_T51 l0 x8_1).f1))) (fun _ hk => hk.2) (.int .i64 ((rd_T51 l0 x8_1).f2))) (fun _ hk => hk.2) (.int .i64 ((rd_T51 l0 x8_1).f3.f0))) (fun _ hk => hk.2) (.int .i64 ((rd_T51 l0 x8_1).f3.f1))) (fun _ hk => hk.2) (.int .i64 ((rd_T51 l0 x8_1).f3.f2))) (fun _ hk => hk.2) (.int .i64 ((rd_T51 l0 x8_1).f3.f3))) (fun _ hk => hk.2) (.slice A174_7 ((rd_T51 l0 x8_1).f3.f4).length c174_7)) (fun _ hk => hk.2) (.bool ((rd_T51 l0 x8_1).f3.f5))) (fun _ hk => trivial)⟩, ⟨bL HB.out⟩⟩
         ·rw [if_neg c13] at H
          have c13b0 : (((rd_T51 l0 (ji10)).f0).toList == ((rd_T51 l0 x8_1).f0).toList) = false := beq_eq_false_iff_ne.mpr c13; have c13b1 : (((rd_T51 l0 (ji10)).f0).toList != ((rd_T51 l0 x8_1).f0).toList) = true := bne_iff_ne.mpr c13
          by_cases c16 : x3_1.length < 8796093022208
          ·rw [if_pos c16] at H
           have LMc16 := Aside0.mk c16; clear c16; obtain ⟨y180, hy180⟩ : ∃ y_ : List ByteArray, y_ = (x3_1 ++ [(rd_T51 l0 x8_1).f0]) := ⟨_, rfl⟩
           replace H : (spec_l7Keys.l0 k1 l0 y180 l0 (l0.length : Int) (wrap64 (x8_1 + 1))) = some r := by first | (rw [hy180]; with_reducible exact H) | (have H2_ := (Option.bind_some _ _).symm.trans H; rw [hy180]; with_reducible exact H2_) | (have H2_ := (Option.bind_some _ _).symm.trans H; with_reducible exact H2_) | with_reducible exact H | (rw [hy180]; exact H) | exact H
           have Ny180 := Aside0.mk hy180; clear hy180; have H' := Aside0.mk H; clear H; have p174 : 0 ≤ (x8_1 : Int) := oD; have q174 : x8_1 < (l0.length : Int) := oD; obtain ⟨ad174, A174_7, c174_7, e174, hx174_0, hx174_1, hx174_2, hx174_3, hx174_4, hx174_5, hx174_6, hx174_7, hx174_8, hl174_7, hi174_7⟩ := at_T51B HR0.out HB.out x8_1 p174 q174
           cases e174
           have HR174_7 := Aside0.mk hi174_7; have HC174_7 := Aside0.mk hl174_7; clear hi174_7 hl174_7; replace p174 := eq_true p174; replace q174 := eq_true q174
           go_wp2_with (first | ((with_reducible refine gate_dst (N := 5) rfl ?_); refine box_event ?hg (N := 5) ?hd (cs := #[.string (⟨#[]⟩ : ByteArray), .int .i64 0, .int .i64 0, .int .i64 0, .int .i64 0, .int .i64 0, .int .i64 0, .slice none 0 0, .bool false]) (t := 51) ?hr ?_; (case hd => rfl); (case hg => rfl); (case hr => first | (go_simp; done) | (go_simp; rfl)); intro gb175 hg w17 hbox hb; have _ := mK (Kd.R_below (rK HO_3.out) hb); have _ := mK (below_step (bL HB.out) hb); have _ := mK (hbox); have _ := mK (sL hg (bL HB.out)); have _ := mK (sL hg (bL HB.out)); clear HO_3 HB; rename_i HO_3 HB BK175 GW175 GE175; clear hb hbox hg; obtain ⟨_, _, _, _, _, _, _, _, _⟩ := kc9 BK175.out; obtain ⟨_, _, _, _, _, _, _, _, _⟩ := kf9 BK175.out; have p179 : 0 ≤ ((ji10) : Int) := oD; have q179 : (ji10) < (l0.length : Int) := oD; obtain ⟨ad179, A179_7, c179_7, e179, hx179_0, hx179_1, hx179_2, hx179_3, hx179_4, hx179_5, hx179_6, hx179_7, hx179_8, hl179_7, hi179_7⟩ := at_T51G HR0.out HB.out GW175.out (.string ((rd_T51 l0 x8_1).f0)) (.int .i64 ((rd_T51 l0 x8_1).f1)) (.int .i64 ((rd_T51 l0 x8_1).f2)) (.int .i64 ((rd_T51 l0 x8_1).f3.f0)) (.int .i64 ((rd_T51 l0 x8_1).f3.f1)) (.int .i64 ((rd_T51 l0 x8_1).f3.f2)) (.int .i64 ((rd_T51 l0 x8_1).f3.f3)) (.slice A174_7 ((rd_T51 l0 x8_1).f3.f4).length c174_7) (.bool ((rd_T51 l0 x8_1).f3.f5)) (ji10) p179 q179; obtain rfl : ad174 = ad179 := (by injection e179); have HR179_7 := Aside0.mk hi179_7; have HC179_7 := Aside0.mk hl179_7; clear hi179_7 hl179_7; (try (have hy179_0 := fun (n_ : Nat) => cell_drewN_of n_ hx179_0; simp only [drewN_setCell] at hy179_0)); (try (have hy179_1 := fun (n_ : Nat) => cell_drewN_of n_ hx179_1; simp only [drewN_setCell] at hy179_1)); (try (have hy179_2 := fun (n_ : Nat) => cell_drewN_of n_ hx179_2; simp only [drewN_setCell] at hy179_2)); (try (have hy179_3 := fun (n_ : Nat) => cell_drewN_of n_ hx179_3; simp only [drewN_setCell] at hy179_3)); (try (have hy179_4 := fun (n_ : Nat) => cell_drewN_of n_ hx179_4; simp only [drewN_setCell] at hy179_4)); (try (have hy179_5 := fun (n_ : Nat) => cell_drewN_of n_ hx179_5; simp only [drewN_setCell] at hy179_5)); (try (have hy179_6 := fun (n_ : Nat) => cell_drewN_of n_ hx179_6; simp only [drewN_setCell] at hy179_6)); (try (have hy179_7 := fun (n_ : Nat) => cell_drewN_of n_ hx179_7; simp only [drewN_setCell] at hy179_7)); (try (have hy179_8 := fun (n_ : Nat) => cell_drewN_of n_ hx179_8; simp only [drewN_setCell] at hy179_8)); replace p179 := eq_true p179; replace q179 := eq_true q179) | ((with_reducible refine gate_builtin (b := .append) (xs := #[.tmp 26, .tmp 29]) rfl ?_); at_builtin; refine Kd.R_append Kd.string (w0 := w) w.heap.size rfl (.tmp 26) (.tmp 29) 66 9 (.string ⟨#[]⟩) 16 rfl Try.underlying66 info9 rfl (by decide) (by omega) u3 x3_1 ((rd_T51 l0 x8_1).f0) [.string ((rd_T51 l0 x8_1).f0)] (fun _ => True) (fun _ => False) rfl (by first | (go_simp; done) | (go_simp; rfl)) ?aP (fun _ hk => hk.elim) ?aF ?aO ?aB ?aS ?aL ?_; (case aP => exact rfl); (case aB => exact (bL HB.out)); (case aF => exact (fun _ _ => trivial)); (case aO => exact (Kd.R_mono (rS HO_3.out BK175.out) (fun _ _ => trivial))); (case aS => exact (below_size (bL HB.out))); (case aL => have := LMc16.out; omega); intro v181 w19 ho hb hg hat; rw [← Ny180.out] at ho; have _ := mK (blk_grown (bK (p9 BK175.out)) hg (Kd.R_ne HO_3.out BK175.out (by decide))); have _ := mK (hb); have _ := mK (ho); clear BK175 HB HO_3; rename_i BK175 HB HO182; clear ho hb hg hat) | go_values | go_skip | go_guarded | go_step | go_upon | go_back | go_quiet (fail))
           go_roundg k1
           case measure => have := HK1.out; omega
           case rel => exact ⟨(y180), (wrap64 (x8_1 + 1)), sE, H', ⟨by have := HK1.out; omega⟩, ⟨rK HO182.out⟩, ⟨bL HB.out⟩⟩
          ·rw [if_neg c16] at H; exact absurd H (by simp)
        ·rw [if_neg c12] at H; exact absurd H (by simp)
       ·rw [if_neg c11] at H; exact absurd H (by simp)
     ·rw [if_neg c4] at H; exact absurd H (by simp)
    ·rw [if_neg c3] at H; exact absurd H (by simp)
   ·rw [if_neg c2] at H
    have c2b0 : decide (x8_1 < (l0.length : Int)) = false := decide_eq_false c2; clear c2; obtain rfl := Option.some.inj H
    go_wp2
    repeat (go_quiet (fail); try go_wp2)
    go_ret
    exact ⟨_, sE, rK HO_3.out, bL HB.out⟩
/-! ### spec_l1Fixed: function 40 -/
def spec_l1Fixed.l0 : Nat → Int → List Int → Int → Option (List Int)
 | 0, _, _, _ => none
 | k + 1, x0, x5, x6 => if x6 ≥ 0 then (if 0 ≤ (IntKind.u64.wrap (wrap64 (8 * x6))) then (if x5.length < 140737488355328 then (spec_l1Fixed.l0 k x0 (x5 ++ [(shr .i64 x0 (IntKind.u64.wrap (wrap64 (8 * x6)))) % 256]) (wrap64 (x6 - 1))) else (none)) else (none)) else (some x5)
def spec_l1Fixed.f (k : Nat) (a0 : Int) (a1 : Int) : Option (List Int) := spec_l1Fixed.l0 k a0 ([] : List Int) (wrap64 (a1 - 1))
set_option maxHeartbeats 8000000 in
set_option maxRecDepth 100000 in
theorem spec_l1Fixed.calls (k : Nat) (a0 : Int) (a1 : Int) (r : List Int) (w : World) (h : spec_l1Fixed.f k a0 a1 = some r) :
  Calls Try.prog 40 #[.int .i64 a0, .int .i64 a1] w fun e w' => ∃ v0_ : Value, e = .returned (v0_) ∧ Kd.R (Kd.int .u8) 5 w' w.heap.size (fun _ => True) v0_ r ∧ Below w.heap.size w w' := by
 have HB := mK (Below.refl w.heap.size w)
 have H : (spec_l1Fixed.l0 k a0 ([] : List Int) (wrap64 (a1 - 1))) = some r := h
 clear h
 have H' := Aside0.mk H
 clear H
 go_enter Try.func40, Try.ntmps40
 go_wp2
 go_loopg [5, 6] k (fun kq v5 v6 w' => ∃ (x5_1 : List Int) (x6_1 : Int), v6 = .int .i64 x6_1 ∧ Aside0 (spec_l1Fixed.l0 kq a0 x5_1 x6_1 = some r) ∧ Aside0 (kq ≤ k) ∧ Aside0 (Kd.R (Kd.int .u8) 5 w' w.heap.size (fun _ => True) v5 x5_1) ∧ Aside0 (Below w.heap.size w w'))
 case atStart => exact ⟨(([] : List Int)), (wrap64 (a1 - 1)), sE, H', ⟨Nat.le_refl _⟩, ⟨by first | exact Kd.R_nil _ _ _ _ _ | exact Kd.N_nil _ _ _ _ _ | exact Kd.V_nil _ _ _ _ _ | exact Kd.Q_nil _ _ _ _ _ | exact Kd.S_nil _ _ _ _ _⟩, ⟨bL HB.out⟩⟩
 case round =>
  clear H'
  try clear p2
  obtain ⟨x5_1, x6_1, rfl, HA, HK1, HO_5, HB⟩ := hrel
  cases gk with
  | zero => exact absurd HA.out (by simp [spec_l1Fixed.l0])
  | succ k1 =>
   have H := HA.out; clear HA; simp only [spec_l1Fixed.l0] at H
   by_cases c3 : x6_1 ≥ 0
   ·rw [if_pos c3] at H
    have c3b0 : decide (0 ≤ x6_1) = true := decide_eq_true c3; clear c3; obtain ⟨ji4, hji4⟩ : ∃ j_ : Int, (IntKind.u64.wrap (wrap64 (8 * x6_1))) = j_ := ⟨_, rfl⟩
    replace H : (if 0 ≤ (ji4) then (if x5_1.length < 140737488355328 then (spec_l1Fixed.l0 k1 a0 (x5_1 ++ [(shr .i64 a0 (ji4)) % 256]) (wrap64 (x6_1 - 1))) else (none)) else (none)) = some r := by first | (rw [hji4] at H; exact H) | (simp only [hji4] at H ⊢; exact H)
    by_cases c5 : 0 ≤ (ji4)
    ·rw [if_pos c5] at H
     have c5b0 := eq_true c5; have c5b1 : decide (0 ≤ (ji4)) = true := decide_eq_true c5; clear c5; obtain ⟨ji6, hji6⟩ : ∃ j_ : Int, (shr .i64 a0 (ji4)) = j_ := ⟨_, rfl⟩
     replace H : (if x5_1.length < 140737488355328 then (spec_l1Fixed.l0 k1 a0 (x5_1 ++ [(ji6) % 256]) (wrap64 (x6_1 - 1))) else (none)) = some r := by first | (rw [hji6] at H; exact H) | (simp only [hji6] at H ⊢; exact H)
     have hji6_ : (a0 / 2 ^ min (ji4).toNat 64) = ji6 := hji6; have hji6z : (ji4) ≤ 64 → (a0 / 2 ^ (ji4).toNat) = ji6 := shr_small hji6
     by_cases c7 : x5_1.length < 140737488355328
     ·rw [if_pos c7] at H
      have LMc7 := Aside0.mk c7; clear c7; obtain ⟨y183, hy183⟩ : ∃ y_ : List Int, y_ = (x5_1 ++ [(ji6) % 256]) := ⟨_, rfl⟩
      replace H : (spec_l1Fixed.l0 k1 a0 y183 (wrap64 (x6_1 - 1))) = some r := by first | (rw [hy183]; with_reducible exact H) | (have H2_ := (Option.bind_some _ _).symm.trans H; rw [hy183]; with_reducible exact H2_) | (have H2_ := (Option.bind_some _ _).symm.trans H; with_reducible exact H2_) | with_reducible exact H | (rw [hy183]; exact H) | exact H
      have Ny183 := Aside0.mk hy183; clear hy183; have H' := Aside0.mk H; clear H
      go_wp2_with (first | ((with_reducible refine gate_builtin (b := .append) (xs := #[.tmp 13, .tmp 20]) rfl ?_); at_builtin; refine Kd.R_append (Kd.int .u8) (w0 := w) w.heap.size rfl (.tmp 13) (.tmp 20) 24 5 (.int .u8 0) 1 rfl Try.underlying24 info5 rfl (by decide) (by omega) u5 x5_1 ((ji6) % 256) [.int .u8 ((ji6) % 256)] (fun _ => True) (fun _ => False) rfl rfl ?aP (fun _ hk => hk.elim) ?aF ?aO ?aB ?aS ?aL ?_; (case aP => exact rfl); (case aB => exact (bL HB.out)); (case aF => exact (fun _ _ => trivial)); (case aO => exact (rK HO_5.out)); (case aS => exact (below_size (bL HB.out))); (case aL => have := LMc7.out; omega); intro v184 w8 ho hb hg hat; rw [← Ny183.out] at ho; have _ := mK (hb); have _ := mK (ho); clear HB HO_5; rename_i HB HO185; clear ho hb hg hat))
      go_roundg k1
      case measure => have := HK1.out; omega
      case rel => exact ⟨(y183), (wrap64 (x6_1 - 1)), sE, H', ⟨by have := HK1.out; omega⟩, ⟨rK HO185.out⟩, ⟨bL HB.out⟩⟩
     ·rw [if_neg c7] at H; exact absurd H (by simp)
    ·rw [if_neg c5] at H; exact absurd H (by simp)
   ·rw [if_neg c3] at H
    have c3b0 : decide (0 ≤ x6_1) = false := decide_eq_false c3; clear c3; obtain rfl := Option.some.inj H
    go_wp2
    go_ret
    exact ⟨_, sE, rK HO_5.out, bL HB.out⟩
/-! ### spec_l1Crc: function 41 -/
mutual
def spec_l1Crc.l0 : Nat → Int → List Int → Int → Int → Option (Int)
 | 0, _, _, _, _ => none
 | k + 1, x3, x7, x8, x9 => if x9 < x8 then (if 0 ≤ x9 then (if x9 < (x7.length : Int) then (spec_l1Crc.l1 k (Go.bits .xor .u32 x3 ((rd x7 x9) % 4294967296)) 0 x7 x8 x9) else (none)) else (none)) else (some (Go.bits .xor .u32 x3 4294967295))
def spec_l1Crc.l1 : Nat → Int → Int → List Int → Int → Int → Option (Int)
 | 0, _, _, _, _, _ => none
 | k + 1, x3, x6, x7, x8, x9 => if x6 < 8 then (if (Go.bits .and .u32 x3 1) = 1 then (spec_l1Crc.l1 k (Go.bits .xor .u32 (x3 / 2) 2197175160) (wrap64 (x6 + 1)) x7 x8 x9) else (spec_l1Crc.l1 k (x3 / 2) (wrap64 (x6 + 1)) x7 x8 x9)) else (spec_l1Crc.l0 k x3 x7 x8 (wrap64 (x9 + 1)))
end
def spec_l1Crc.f (k : Nat) (l0 : List Int) : Option (Int) := spec_l1Crc.l0 k 4294967295 l0 (l0.length : Int) 0
set_option maxHeartbeats 8000000 in
set_option maxRecDepth 100000 in
theorem spec_l1Crc.calls (k : Nat) (A0 : Option Addr) (c0 : Nat) (l0 : List Int) (r : Int) (w : World) (hr0 : Kd.C (Kd.int .u8) w A0 l0.length l0) (hc0 : l0.length ≤ c0) (h : spec_l1Crc.f k l0 = some r) :
  Calls Try.prog 41 #[.slice A0 l0.length c0] w fun e w' => e = .returned (.int .u32 r) ∧ Drawn0 w w' := by
 have HR0 := Aside0.mk hr0
 have HC0 := Aside0.mk hc0
 clear hr0 hc0
 have H : (spec_l1Crc.l0 k 4294967295 l0 (l0.length : Int) 0) = some r := h
 clear h
 have H' := Aside0.mk H
 clear H
 go_enter Try.func41, Try.ntmps41
 go_wp2
 go_loopg [3, 9] k (fun kq v3 v9 w' => ∃ (x3_1 : Int) (x9_1 : Int), v3 = .int .u32 x3_1 ∧ v9 = .int .i64 x9_1 ∧ Aside0 (spec_l1Crc.l0 kq x3_1 l0 (l0.length : Int) x9_1 = some r) ∧ Aside0 (kq ≤ k) ∧ Drawn0 w w')
 case atStart => exact ⟨(4294967295), (0), sE, sE, H', ⟨Nat.le_refl _⟩, dR⟩
 case round =>
  clear H'; obtain ⟨x3_1, x9_1, rfl, rfl, HA, HK1, ⟨m1, rfl⟩⟩ := hrel
  cases gk with
  | zero => exact absurd HA.out (by simp [spec_l1Crc.l0])
  | succ k1 =>
   have H := HA.out; clear HA; simp only [spec_l1Crc.l0] at H
   by_cases c2 : x9_1 < (l0.length : Int)
   ·rw [if_pos c2] at H
    have c2b0 : decide (x9_1 < (l0.length : Int)) = true := decide_eq_true c2; clear c2
    by_cases c3 : 0 ≤ x9_1
    ·rw [if_pos c3] at H
     have c3b0 : decide (0 ≤ x9_1) = true := decide_eq_true c3; clear c3
     by_cases c4 : x9_1 < (l0.length : Int)
     ·rw [if_pos c4] at H
      have c4b0 : decide (x9_1 < (l0.length : Int)) = true := decide_eq_true c4; clear c4; have H' := Aside0.mk H; clear H; have p186 : 0 ≤ (x9_1 : Int) := oD; have q186 : x9_1 < (l0.length : Int) := oD; obtain ⟨ad186, e186, hx186_0⟩ := Kd.at_int HR0.out x9_1 p186 q186
      cases e186
      replace p186 := eq_true p186; replace q186 := eq_true q186
      go_wp2
      go_loopg [3, 6] k1 (fun kq v3 v6 w' => ∃ (x3_2 : Int) (x6_2 : Int), v3 = .int .u32 x3_2 ∧ v6 = .int .i64 x6_2 ∧ Aside0 (spec_l1Crc.l1 kq x3_2 x6_2 l0 (l0.length : Int) x9_1 = some r) ∧ Aside0 (kq ≤ k1) ∧ Drawn0 w w')
      case atStart => exact ⟨(Go.bits .xor .u32 x3_1 ((rd l0 x9_1) % 4294967296)), (0), sE, sE, H', ⟨Nat.le_refl _⟩, dR⟩
      case round =>
       clear H'
       try clear p1
       try clear q1
       try clear hx1
       try clear c2
       try clear c2b0
       try clear p2
       try clear c3
       try clear c3b0
       try clear c4
       try clear c4b0
       try clear hx186_0
       try clear p186
       try clear q186
       obtain ⟨x3_2, x6_2, rfl, rfl, HA, HK2, ⟨m2, rfl⟩⟩ := hrel
       cases gk with
       | zero => exact absurd HA.out (by simp [spec_l1Crc.l1])
       | succ k2 =>
        have H := HA.out; clear HA; simp only [spec_l1Crc.l1] at H
        by_cases c5 : x6_2 < 8
        ·rw [if_pos c5] at H
         have c5b0 : decide (x6_2 < 8) = true := decide_eq_true c5; clear c5
         by_cases c6 : (Go.bits .and .u32 x3_2 1) = 1
         ·rw [if_pos c6] at H
          have c6b0 : ((Go.bits .and .u32 x3_2 1) == 1) = true := beq_iff_eq.mpr c6; have c6b1 : ((Go.bits .and .u32 x3_2 1) != 1) = false := bne_eq_false_iff_eq.mpr c6; clear c6; have H' := Aside0.mk H; clear H
          go_wp2
          go_roundg k2
          case measure => have := HK1.out; have := HK2.out; omega
          case rel => exact ⟨(Go.bits .xor .u32 (x3_2 / 2) 2197175160), (wrap64 (x6_2 + 1)), sE, sE, H', ⟨by have := HK1.out; have := HK2.out; omega⟩, dR⟩
         ·rw [if_neg c6] at H
          have c6b0 : ((Go.bits .and .u32 x3_2 1) == 1) = false := beq_eq_false_iff_ne.mpr c6; have c6b1 : ((Go.bits .and .u32 x3_2 1) != 1) = true := bne_iff_ne.mpr c6; have H' := Aside0.mk H; clear H
          go_wp2
          go_roundg k2
          case measure => have := HK1.out; have := HK2.out; omega
          case rel => exact ⟨(x3_2 / 2), (wrap64 (x6_2 + 1)), sE, sE, H', ⟨by have := HK1.out; have := HK2.out; omega⟩, dR⟩
        ·rw [if_neg c5] at H
         have c5b0 : decide (x6_2 < 8) = false := decide_eq_false c5; clear c5; have H' := Aside0.mk H; clear H
         go_wp2
         go_roundg k2
         case measure => have := HK1.out; have := HK2.out; omega
         case rel => exact ⟨(x3_2), (wrap64 (x9_1 + 1)), sE, sE, H', ⟨by have := HK1.out; have := HK2.out; omega⟩, dR⟩
     ·rw [if_neg c4] at H; exact absurd H (by simp)
    ·rw [if_neg c3] at H; exact absurd H (by simp)
   ·rw [if_neg c2] at H
    have c2b0 : decide (x9_1 < (l0.length : Int)) = false := decide_eq_false c2; clear c2; obtain rfl := Option.some.inj H
    go_wp2
    go_ret
    exact ⟨sE, dR⟩
/-! ### spec_l7Build: function 23, by hand -/
def spec_l7Build.ch (l : List (S51)) (j : Nat) : List (S51) := (l.drop (4 * j)).take 4
def spec_l7Build.ky (l : List (S51)) (j : Nat) : ByteArray := (rd_T51 l ((min (4 * j + 4) l.length - 1 : Nat) : Int)).f0
def spec_l7Build.step (k : Nat) (l : List (S51)) (j : Nat) (st : List Int × List Int) : Option (List Int × List Int) :=
 (spec_l7Block.f k (spec_l7Build.ch l j)).bind fun b => (spec_PutVar.f k ((spec_l7Build.ky l j).size : Int)).bind fun s => (spec_PutVar.f k (st.1.length : Int)).bind fun p => (spec_PutVar.f k (b.length : Int)).bind fun q =>
  if b.length ≤ 1000000 ∧ s.length ≤ 100 ∧ (spec_l7Build.ky l j).size ≤ 1000000 ∧ p.length ≤ 100 ∧ q.length ≤ 100 ∧ st.1.length ≤ 1000000000 ∧ st.2.length ≤ 1000000000 then some (st.1 ++ b, (((st.2 ++ s) ++ bytesOf (spec_l7Build.ky l j)) ++ p) ++ q) else none
def spec_l7Build.run (k : Nat) (l : List (S51)) : Nat → Option (List Int × List Int)
 | 0 => some ([], [])
 | j + 1 => (spec_l7Build.run k l j).bind (spec_l7Build.step k l j)
def spec_l7Build.tail (k : Nat) (l : List (S51)) (a1 : Int) (o i : List Int) : Option (List Int) :=
 (spec_l7Keys.f k l).bind fun ks => (spec_l6Filter.f k ks a1).bind fun p => (spec_l1Fixed.f k o.length 4).bind fun e1 => (spec_l1Fixed.f k ((o.length + 1 + p.2.length : Nat) : Int) 4).bind fun e2 => (spec_l1Fixed.f k l.length 4).bind fun e3 =>
  if o.length ≤ 1000000000 ∧ p.2.length ≤ 1000000 ∧ i.length ≤ 1000000000 ∧ e1.length ≤ 100 ∧ e2.length ≤ 100 ∧ e3.length ≤ 100 then
   (spec_l1Crc.f k ((((((o ++ [p.1 % 256]) ++ p.2) ++ i) ++ e1) ++ e2) ++ e3)).bind fun c => (spec_l1Fixed.f k (wrap64 c) 4).bind fun e4 => if e4.length ≤ 100 then some (((((((o ++ [p.1 % 256]) ++ p.2) ++ i) ++ e1) ++ e2) ++ e3) ++ e4 ++ [84, 66, 76, 49]) else none
  else none
def spec_l7Build.f (k : Nat) (l0 : List (S51)) (a1 : Int) : Option (List Int) := if l0.length ≤ 1000 then (spec_l7Build.run k l0 ((l0.length + 3) / 4)).bind fun st => spec_l7Build.tail k l0 a1 st.1 st.2 else none
theorem spec_l7Build.run_before {k : Nat} {l : List (S51)} : ∀ {n j : Nat} {st : List Int × List Int}, spec_l7Build.run k l n = some st → j ≤ n → ∃ st', spec_l7Build.run k l j = some st' := by
 intro n
 induction n with
 | zero =>
  intro j st h hj
  have e : j = 0 := by omega
  subst e; exact ⟨_, h⟩
 | succ n ih =>
  intro j st h hj
  by_cases e : j = n + 1
  ·subst e; exact ⟨_, h⟩
  ·obtain ⟨s, hs, _⟩ := Option.bind_eq_some_iff.mp h; exact ih hs (by omega)
section
set_option maxHeartbeats 8000000 in
set_option maxRecDepth 100000 in
theorem spec_l7Build.calls (k : Nat) (A0 : Option Addr) (c0 : Nat) (l0 : List (S51)) (a1 : Int) (r : List Int) (w : World) (hr0 : Kd.C k51 w A0 l0.length l0) (hc0 : l0.length ≤ c0) (h : spec_l7Build.f k l0 a1 = some r) :
  Calls Try.prog 23 #[.slice A0 l0.length c0, .int .i64 a1] w fun e w' => ∃ v0_ : Value, e = .returned (v0_) ∧ Kd.R (Kd.int .u8) 5 w' w.heap.size (fun _ => True) v0_ r ∧ Below w.heap.size w w' := by
 unfold spec_l7Build.f at h
 by_cases hl : l0.length ≤ 1000
 case neg => rw [if_neg hl] at h; cases h
 rw [if_pos hl] at h
 obtain ⟨⟨o, ix⟩, hrun, h⟩ := Option.bind_eq_some_iff.mp h
 have HR0 := Aside0.mk hr0
 have HC0 := Aside0.mk hc0
 have H := Aside0.mk h
 have HRUN := Aside0.mk hrun
 have HL := Aside0.mk hl
 clear hr0 hc0 h hrun hl
 have S0 := mK ((Sn.init (e := 5) (Below.refl w.heap.size w)).nil.nil)
 go_enter Try.func23, Try.ntmps23
 go_wp2
 go_loopg [5, 6, 7] ((l0.length + 3) / 4) (fun gg v5 v6 v7 w' => ∃ (j Ab cb Ai ci : Nat) (Ap Aq : Option Addr) (b i : List Int), j ≤ (l0.length + 3) / 4 ∧ (l0.length + 3) / 4 - j ≤ gg ∧ v5 = .slice Ap b.length cb ∧ v6 = .slice Aq i.length ci ∧ v7 = .int .i64 (4 * j : Nat) ∧ Aside0 (spec_l7Build.run k l0 j = some (b, i)) ∧ Aside0 (Sn 5 w w w' [(v5, b), (v6, i)] []))
 case atStart => exact ⟨0, 0, 0, 0, 0, none, none, [], [], by omega, by omega, rfl, rfl, rfl, ⟨rfl⟩, ⟨snK S0.out⟩⟩
 case round =>
  obtain ⟨j, _, cb, _, ci, Ap, Aq, b, i, hj, hg, rfl, rfl, rfl, HB, S1⟩ := hrel; clear S0; have hl := HL.out
  by_cases hlt : 4 * j < l0.length
  ·obtain ⟨st1, hst1⟩ := spec_l7Build.run_before HRUN.out (show j + 1 ≤ (l0.length + 3) / 4 by omega)
   have hst2 := hst1
   unfold spec_l7Build.run at hst1
   rw [HB.out, Option.bind_some] at hst1
   unfold spec_l7Build.step at hst1
   replace hst1 := Option.bind_eq_some_iff.mp hst1; obtain ⟨bl, hbl, hst1⟩ := hst1; replace hst1 := Option.bind_eq_some_iff.mp hst1; obtain ⟨s, hs, hst1⟩ := hst1; replace hst1 := Option.bind_eq_some_iff.mp hst1; obtain ⟨p, hp, hst1⟩ := hst1; replace hst1 := Option.bind_eq_some_iff.mp hst1; obtain ⟨q, hq, hst1⟩ := hst1
   simp only at hp hst1
   by_cases hc : bl.length ≤ 1000000 ∧ s.length ≤ 100 ∧ (spec_l7Build.ky l0 j).size ≤ 1000000 ∧ p.length ≤ 100 ∧ q.length ≤ 100 ∧ b.length ≤ 1000000000 ∧ i.length ≤ 1000000000
   case neg => rw [if_neg hc] at hst1; cases hst1
   rw [if_pos hc] at hst1; have hst := Option.some.inj hst1; subst hst; have HN := Aside0.mk hst2; have HBL := Aside0.mk hbl; have HS := Aside0.mk hs; have HP := Aside0.mk hp; have HQ := Aside0.mk hq; clear hst1 hst2 hbl hs hp hq HB
   have hj4 : ((4 * j : Nat) : Int) < (l0.length : Int) := by omega
   have hjt : (4 * (j : Int) < (l0.length : Int)) := by omega
   go_upto_if 25 with (fail)
   go_cut [8] (fun v8 wc => v8 = .int .i64 (min (4 * j + 4) l0.length : Nat) ∧ Aside0 (Sn 5 w w wc [(.slice Ap b.length cb, b), (.slice Aq i.length ci, i)] []))
   case first =>
    have hw4 : IntKind.i64.wrap (4 * (j : Int) + 4) = 4 * (j : Int) + 4 := by rw [i64_w]; unfold wrap64; omega
    by_cases hm : (l0.length : Int) < 4 * (j : Int) + 4
    ·have hmb : decide ((l0.length : Int) < 4 * (j : Int) + 4) = true := decide_eq_true hm
     (first | rw [hmb] | (simp only [hw4]; rw [hmb]) | skip)
     go_wp2
     go_meet
     case rel => exact ⟨by first | (congr 2; omega) | (congr 1; omega) | omega, ⟨snK S1.out⟩⟩
    ·have hmb : decide ((l0.length : Int) < 4 * (j : Int) + 4) = false := decide_eq_false hm
     (first | rw [hmb] | (simp only [hw4]; rw [hmb]) | skip)
     go_wp2
     go_meet
     case rel => exact ⟨by first | (congr 2; omega) | (congr 1; omega) | omega, ⟨snK S1.out⟩⟩
   case rest =>
    obtain ⟨rfl, S2⟩ := hcut; have hl := HL.out; have hc := HC0.out; obtain ⟨ad, rfl, hz_⟩ := HR0.out.2.2 (by omega); clear hz_
    have hlm : min (4 * j + 4) l0.length - 1 < l0.length := by omega
    have hkx : ∀ V, Below w.heap.size w V → V.cell? (ad.add ((min (4 * j + 4) l0.length - 1) * 9)) = some (.string (spec_l7Build.ky l0 j)) := by
     intro V hV; obtain ⟨ad9, A7, c7, e9, hx0, hz9⟩ := at_T51 (Kd.C_below HR0.out hV) ((min (4 * j + 4) l0.length - 1 : Nat) : Int) (by omega) (by omega)
     cases e9
     rw [Int.toNat_natCast] at hx0; exact hx0
    have hrc : ∀ V, Below w.heap.size w V → Kd.C k51 V (some (ad.add (4 * j * 9))) (spec_l7Build.ch l0 j).length (spec_l7Build.ch l0 j) := by
     intro V hV; have h2 := Kd.C_drop (Kd.C_below HR0.out hV) (m := 4 * j) (c := l0.length) (by omega) (Nat.le_refl _); rw [if_neg (by omega)] at h2; have h3 := Kd.C_take h2 (m := min 4 (l0.length - 4 * j)) (by rw [List.length_drop]; omega)
     have e3 : (l0.drop (4 * j)).take (min 4 (l0.length - 4 * j)) = spec_l7Build.ch l0 j := by
      unfold spec_l7Build.ch
      rw [← List.length_drop, ← List.take_eq_take_min]
     rw [e3] at h3; exact h3
    have hcl : (spec_l7Build.ch l0 j).length = min (4 * j + 4) l0.length - 4 * j := by unfold spec_l7Build.ch; rw [List.length_take, List.length_drop]; omega
    have RDC := Aside0.mk hrc; have HKX := Aside0.mk hkx; have CAP := mK (show (spec_l7Build.ch l0 j).length ≤ c0 - 4 * j by omega); obtain ⟨E, hE⟩ : ∃ E, E = min (4 * j + 4) l0.length := ⟨_, rfl⟩; rw [← hE] at hcl hlm ⊢; have HKX2 := mK (show ∀ V, Below w.heap.size w V → V.cell? (ad.add ((E - 1) * 9)) = some (.string (spec_l7Build.ky l0 j)) by rw [hE]; exact HKX.out)
    have q1 : 0 ≤ 4 * (j : Int) ∧ 4 * (j : Int) ≤ (E : Int) := by omega
    have q2 : (4 * (j : Int)).toNat = 4 * j := by omega
    have q3 : ¬ c0 = 4 * j := by omega
    have q4 : 4 * (j : Int) ≤ (E : Int) := by omega
    have q5 : (E : Int) ≤ (c0 : Int) := by omega
    have q6 : (E : Int) ≤ (l0.length : Int) := by omega
    have q7 : E - 4 * j = (spec_l7Build.ch l0 j).length := by omega
    have q8 : IntKind.i64.wrap ((E : Int) - 1) = (E : Int) - 1 := by rw [i64_w]; unfold wrap64; omega
    have q9 : 1 ≤ (E : Int) := by omega
    have q10 : ((E : Int) - 1).toNat = E - 1 := by omega
    have q11 : (E : Int) - 1 < (l0.length : Int) := by omega
    have hu1 : IntKind.u64.wrap ((spec_l7Build.ky l0 j).size : Int) = ((spec_l7Build.ky l0 j).size : Int) := by simp [IntKind.wrap, IntKind.bits, IntKind.signed]; omega
    have hu2 : IntKind.u64.wrap (b.length : Int) = (b.length : Int) := by simp [IntKind.wrap, IntKind.bits, IntKind.signed]; omega
    have hu3 : IntKind.u64.wrap (bl.length : Int) = (bl.length : Int) := by simp [IntKind.wrap, IntKind.bits, IntKind.signed]; omega
    have hw4 : IntKind.i64.wrap (4 * (j : Int) + 4) = 4 * (j : Int) + 4 := by rw [i64_w]; unfold wrap64; omega
    clear HKX hE hcl hlm hrc hkx hj4 hjt
    go_wp2_with (first | (go_at_call 36; refine Sn.call (snK S2.out) (spec_l7Block.calls k _ _ (spec_l7Build.ch l0 j) bl _ (RDC.out _ (Sn.bel (snK S2.out))) CAP.out HBL.out) ?_; intro A32 c32 w32 hS_; have S32 := Aside0.mk hS_.rot3; have hxk := HKX2.out _ hS_.bel; clear hS_) | (go_at_call 37; refine Sn.call (snK S32.out) (spec_PutVar.calls k _ s _ HS.out) ?_; intro A43 c43 w43 hS_; have S43 := Aside0.mk hS_.swap; clear hS_) | ((with_reducible refine gate_builtin (b := .append) (xs := #[.tmp 39, .tmp 43]) rfl ?_); at_builtin; refine Sn.wapp (snK S43.out) rfl (.tmp 39) (.tmp 43) 24 rfl Try.underlying24 info5 rfl rfl (Sn.reads (c := c43) (snK S43.out) (by simp)) (by omega) ?_; intro z1 hz A44 c44 w44 hS_; have NZ1 := Aside0.mk hz; have lz1 : z1.length ≤ 1000000100 := (by rw [hz, List.length_append]; omega); have S44 := Aside0.mk hS_.swap.drop1; clear hz hS_) | ((with_reducible refine gate_builtin (b := .append) (xs := #[.tmp 45, .tmp 46]) rfl ?_); at_builtin; refine Sn.wstr (snK S44.out) rfl (.tmp 45) (.tmp 46) 24 9 rfl Try.underlying24 Try.underlying9 info5 (spec_l7Build.ky l0 j) rfl rfl (by omega) ?_; intro z2 hz A47 c47 w47 hS_; have NZ2 := Aside0.mk hz; have lz2 : z2.length ≤ 1001000100 := (by rw [hz, List.length_append, bytesOf_length]; omega); have S47 := Aside0.mk hS_; clear hz hS_) | (go_at_call 37; refine Sn.call (snK S47.out) (spec_PutVar.calls k _ p _ HP.out) ?_; intro A52 c52 w52 hS_; have S52 := Aside0.mk hS_.swap; clear hS_) | ((with_reducible refine gate_builtin (b := .append) (xs := #[.tmp 48, .tmp 52]) rfl ?_); at_builtin; refine Sn.wapp (snK S52.out) rfl (.tmp 48) (.tmp 52) 24 rfl Try.underlying24 info5 rfl rfl (Sn.reads (c := c52) (snK S52.out) (by simp)) (by omega) ?_; intro z3 hz A53 c53 w53 hS_; have NZ3 := Aside0.mk hz; have lz3 : z3.length ≤ 1001000200 := (by rw [hz, List.length_append]; omega); have S53 := Aside0.mk hS_.swap.drop1; clear hz hS_) | (go_at_call 37; refine Sn.call (snK S53.out) (spec_PutVar.calls k _ q _ HQ.out) ?_; intro A58 c58 w58 hS_; have S58 := Aside0.mk hS_.swap; clear hS_) | ((with_reducible refine gate_builtin (b := .append) (xs := #[.tmp 54, .tmp 58]) rfl ?_); at_builtin; refine Sn.wapp (snK S58.out) rfl (.tmp 54) (.tmp 58) 24 rfl Try.underlying24 info5 rfl rfl (Sn.reads (c := c58) (snK S58.out) (by simp)) (by omega) ?_; intro z4 hz A59 c59 w59 hS_; have NZ4 := Aside0.mk hz; have lz4 : z4.length ≤ 1001000300 := (by rw [hz, List.length_append]; omega); have S59 := Aside0.mk hS_.swap.drop1.rot3; clear hz hS_) | ((with_reducible refine gate_builtin (b := .append) (xs := #[.tmp 60, .tmp 61]) rfl ?_); at_builtin; refine Sn.wapp (snK S59.out) rfl (.tmp 60) (.tmp 61) 24 rfl Try.underlying24 info5 rfl rfl (Sn.reads (c := c32) (snK S59.out) (by simp)) (by omega) ?_; intro z5 hz A62 c62 w62 hS_; have NZ5 := Aside0.mk hz; have S62 := mK (hS_.sub (List.sublist_append_left [_, _] [_])); clear hz hS_))
    go_roundg ((l0.length + 3) / 4 - (j + 1))
    case measure => omega
    case rel =>
     refine ⟨j + 1, 0, _, 0, _, _, _, z5, z4, by omega, by omega, rfl, rfl, (by (try rw [hw4]); congr 1), ⟨?_⟩, ⟨snK S62.out⟩⟩; rw [HN.out, NZ5.out, NZ4.out, NZ3.out, NZ2.out, NZ1.out]
  ·obtain rfl : j = (l0.length + 3) / 4 := by omega
   have hst := HB.out.symm.trans HRUN.out; obtain ⟨rfl, rfl⟩ := Prod.mk.inj (Option.some.inj hst); have h0 := H.out; clear hst HB HRUN H
   unfold spec_l7Build.tail at h0
   obtain ⟨ks, hks, h1⟩ := Option.bind_eq_some_iff.mp h0; obtain ⟨⟨fw, fb⟩, hfl, h2⟩ := Option.bind_eq_some_iff.mp h1; obtain ⟨e1, he1, h3⟩ := Option.bind_eq_some_iff.mp h2; obtain ⟨e2, he2, h4⟩ := Option.bind_eq_some_iff.mp h3; obtain ⟨e3, he3, h5⟩ := Option.bind_eq_some_iff.mp h4
   simp only at he2 h5
   by_cases hc : b.length ≤ 1000000000 ∧ fb.length ≤ 1000000 ∧ i.length ≤ 1000000000 ∧ e1.length ≤ 100 ∧ e2.length ≤ 100 ∧ e3.length ≤ 100
   case neg => rw [if_neg hc] at h5; cases h5
   rw [if_pos hc] at h5; obtain ⟨cr, hcr, h6⟩ := Option.bind_eq_some_iff.mp h5; obtain ⟨e4, he4, h7⟩ := Option.bind_eq_some_iff.mp h6
   by_cases hc2 : e4.length ≤ 100
   case neg => rw [if_neg hc2] at h7; cases h7
   rw [if_pos hc2] at h7; have HR := mK (Option.some.inj h7); have HKS := Aside0.mk hks; have HFL := Aside0.mk hfl; have HE1 := Aside0.mk he1; have HE2 := Aside0.mk he2; have HE3 := Aside0.mk he3; have HE4 := Aside0.mk he4; have HCR := Aside0.mk hcr; clear h0 h1 h2 h3 h4 h5 h6 h7 hks hfl he1 he2 he3 he4 hcr hj hg; obtain ⟨yl, hyl⟩ : ∃ y : List Int, y = [84, 66, 76, 49] := ⟨_, rfl⟩; have HY := Aside0.mk hyl
   have LY : yl.length = 4 := by rw [hyl]; rfl
   clear hyl
   have hf1 : IntKind.u8.wrap fw = fw % 256 := by simp [IntKind.wrap, IntKind.bits, IntKind.signed]
   go_wp2_with (first | (go_at_call 39; (with_reducible refine (spec_l7Keys.calls k _ _ l0 ks _ (Kd.C_below HR0.out (Sn.bel (snK S1.out))) HC0.out HKS.out).mono ?_); rintro e w64 ⟨v64, rfl, ho, hb⟩; obtain ⟨A64, c64, rfl⟩ := Kd.R_slice ho; have S2 := mK (Sn.step (snK S1.out) hb); have RK := mK (Kd.R_reads' ho).2; clear ho hb) | (go_at_call 38; (with_reducible refine (spec_l6Filter.calls k _ _ ks a1 fw fb _ (cK RK.out.2) RK.out.1 HFL.out).mono ?_); rintro e w66 ⟨v66, rfl, ho, hb⟩; obtain ⟨A66, c66, rfl⟩ := Kd.R_slice ho; have S3 := mK (Sn.add (snK S2.out) ho hb); clear ho hb) | ((with_reducible refine gate_dst (N := 11) rfl ?_); refine box_event ?hg (N := 11) ?hd (cs := #[.int .i64 0, .slice none 0 0]) (t := 64) ?hr ?_; (case hd => rfl); (case hg => rfl); (case hr => first | (go_simp; done) | (go_simp; rfl)); intro g hg w11 hbox hb; have S4 := mK (Sn.box (snK S3.out) hb hbox (by rw [hg]; exact (Sn.bel (snK S3.out)).size) (by decide)); have BK := Aside0.mk hbox; clear hg hbox hb; obtain ⟨_, _⟩ := c2 BK.out; obtain ⟨_, _⟩ := f2 BK.out) | ((with_reducible refine gate_store (t := 64) (p := 11) rfl ?_); refine store_event (t := 64) (p := 11) (v := ?vo) (w1 := (w11.setCell ⟨g, 0, none⟩ (.int .i64 fw)).setCell ⟨g, 1, none⟩ (.slice A66 fb.length c66)) ?hg ?ho ?hn ?hr ?_; (case ho => rfl); (case hg => rfl); (case hn => rfl); (case hr => first | (go_simp; done) | (go_simp; rfl)); intro w12 hw; have S5 := mK (show Sn 5 w w w12 [(.slice A66 fb.length c66, fb), (.slice Ap b.length cb, b), (.slice Aq i.length ci, i)] [(g, .cells #[.int .i64 fw, .slice A66 fb.length c66] 64 (0, 0))] by rw [hw]; exact Sn.set S4.out (fun q h => (by cases h)) (((On.refl _ _).set 0 _).set 1 _) (p2 BK.out)); have BK2 := mK (S5.out.kept _ (List.mem_cons_self ..)).1; clear S4 BK hw; obtain ⟨_, _⟩ := c2 BK2.out; obtain ⟨_, _⟩ := f2 BK2.out) | ((with_reducible refine gate_dst (N := 73) rfl ?_); refine Sn.wlit (e := 5) (y := [fw % 256]) (snK S5.out) rfl (N := 73) rfl (by first | (go_simp; done) | (go_simp; rfl)) (by simp) ?_; intro A73 c73 w73 hS_; have S6 := Aside0.mk hS_.rot3; have BK3 := mK (hS_.kept _ (List.mem_cons_self ..)).1; clear hS_; obtain ⟨_, _⟩ := c2 BK3.out; obtain ⟨_, _⟩ := f2 BK3.out) | ((with_reducible refine gate_builtin (b := .append) (xs := #[.tmp 69, .tmp 73]) rfl ?_); at_builtin; refine Sn.wapp (snK S6.out) rfl (.tmp 69) (.tmp 73) 24 rfl Try.underlying24 info5 rfl rfl (Sn.reads (c := c73) (snK S6.out) (by simp)) (by simp only [List.length_cons, List.length_nil]; omega) ?_; intro z1 hz A74 c74 w74 hS_; have Nz1 := Aside0.mk hz; have lz1 : z1.length ≤ 1000000001 := (by rw [hz, List.length_append]; simp only [List.length_cons, List.length_nil]; omega); have S7 := Aside0.mk hS_; have BK4 := mK (hS_.kept _ (List.mem_cons_self ..)).1; clear hz hS_; obtain ⟨_, _⟩ := c2 BK4.out; obtain ⟨_, _⟩ := f2 BK4.out) | ((with_reducible refine gate_builtin (b := .append) (xs := #[.tmp 75, .tmp 77]) rfl ?_); at_builtin; refine Sn.wapp (snK S7.out) rfl (.tmp 75) (.tmp 77) 24 rfl Try.underlying24 info5 rfl rfl (Sn.reads (c := c66) (snK S7.out) (by simp)) (by omega) ?_; intro z2 hz A78 c78 w78 hS_; have Nz2 := Aside0.mk hz; have lz2 : z2.length ≤ 1001000001 := (by rw [hz, List.length_append]; omega); have S8 := mK (hS_.keep (K' := []) (fun _ h => (by cases h))); clear hz hS_) | ((with_reducible refine gate_builtin (b := .append) (xs := #[.tmp 81, .tmp 82]) rfl ?_); at_builtin; refine Sn.wapp (snK S8.out) rfl (.tmp 81) (.tmp 82) 24 rfl Try.underlying24 info5 rfl rfl (Sn.reads (c := ci) (snK S8.out) (by simp)) (by omega) ?_; intro z3 hz A83 c83 w83 hS_; have Nz3 := Aside0.mk hz; have lz3 : z3.length ≤ 2001000001 := (by rw [hz, List.length_append]; omega); have S9 := Aside0.mk hS_; clear hz hS_) | (go_at_call 40; refine Sn.call (snK S9.out) (spec_l1Fixed.calls k _ 4 e1 _ HE1.out) ?_; intro A86 c86 w86 hS_; have S10 := Aside0.mk hS_.swap; clear hS_) | ((with_reducible refine gate_builtin (b := .append) (xs := #[.tmp 84, .tmp 86]) rfl ?_); at_builtin; refine Sn.wapp (snK S10.out) rfl (.tmp 84) (.tmp 86) 24 rfl Try.underlying24 info5 rfl rfl (Sn.reads (c := c86) (snK S10.out) (by simp)) (by omega) ?_; intro z4 hz A87 c87 w87 hS_; have Nz4 := Aside0.mk hz; have lz4 : z4.length ≤ 2001000101 := (by rw [hz, List.length_append]; omega); have S11 := Aside0.mk hS_; clear hz hS_) | (go_at_call 40; refine Sn.call (snK S11.out) (spec_l1Fixed.calls k _ 4 e2 _ (by rw [show z2.length = b.length + 1 + fb.length by rw [Nz2.out, List.length_append, Nz1.out, List.length_append]; rfl]; exact HE2.out)) ?_; intro A90 c90 w90 hS_; have S12 := Aside0.mk hS_.swap; clear hS_) | ((with_reducible refine gate_builtin (b := .append) (xs := #[.tmp 88, .tmp 90]) rfl ?_); at_builtin; refine Sn.wapp (snK S12.out) rfl (.tmp 88) (.tmp 90) 24 rfl Try.underlying24 info5 rfl rfl (Sn.reads (c := c90) (snK S12.out) (by simp)) (by omega) ?_; intro z5 hz A91 c91 w91 hS_; have Nz5 := Aside0.mk hz; have lz5 : z5.length ≤ 2001000201 := (by rw [hz, List.length_append]; omega); have S13 := Aside0.mk hS_; clear hz hS_) | (go_at_call 40; refine Sn.call (snK S13.out) (spec_l1Fixed.calls k _ 4 e3 _ HE3.out) ?_; intro A95 c95 w95 hS_; have S14 := Aside0.mk hS_.swap; clear hS_) | ((with_reducible refine gate_builtin (b := .append) (xs := #[.tmp 92, .tmp 95]) rfl ?_); at_builtin; refine Sn.wapp (snK S14.out) rfl (.tmp 92) (.tmp 95) 24 rfl Try.underlying24 info5 rfl rfl (Sn.reads (c := c95) (snK S14.out) (by simp)) (by omega) ?_; intro z6 hz A96 c96 w96 hS_; have Nz6 := Aside0.mk hz; have lz6 : z6.length ≤ 2001000301 := (by rw [hz, List.length_append]; omega); have S15 := Aside0.mk hS_; clear hz hS_) | (go_at_call 41; (with_reducible refine (spec_l1Crc.calls k _ _ z6 cr _ (Sn.reads (c := c96) (snK S15.out) (by simp)) (Kd.R_reads' (S15.out.row _ (List.mem_cons_self ..))).2.1 (by rw [Nz6.out, Nz5.out, Nz4.out, Nz3.out, Nz2.out, Nz1.out]; exact HCR.out)).mono ?_); rintro e w99 ⟨rfl, hd⟩; have S16 := mK (Sn.step (snK S15.out) hd.below); clear hd) | (go_at_call 40; refine Sn.call (snK S16.out) (spec_l1Fixed.calls k _ 4 e4 _ HE4.out) ?_; intro A101 c101 w101 hS_; have S17 := Aside0.mk hS_.swap; clear hS_) | ((with_reducible refine gate_builtin (b := .append) (xs := #[.tmp 97, .tmp 101]) rfl ?_); at_builtin; refine Sn.wapp (snK S17.out) rfl (.tmp 97) (.tmp 101) 24 rfl Try.underlying24 info5 rfl rfl (Sn.reads (c := c101) (snK S17.out) (by simp)) (by omega) ?_; intro z7 hz A102 c102 w102 hS_; have Nz7 := Aside0.mk hz; have lz7 : z7.length ≤ 2001000401 := (by rw [hz, List.length_append]; omega); have S18 := Aside0.mk hS_; clear hz hS_) | ((with_reducible refine gate_dst (N := 104) rfl ?_); refine Sn.wlit (e := 5) (y := yl) (snK S18.out) rfl (N := 104) rfl (by have hy_ := HY.out; subst hy_; first | (go_simp; done) | (go_simp; rfl)) (by have hy_ := HY.out; subst hy_; simp) ?_; intro A104 c104 w104 hS_; have S19 := Aside0.mk hS_.swap; clear hS_) | ((with_reducible refine gate_builtin (b := .append) (xs := #[.tmp 103, .tmp 104]) rfl ?_); at_builtin; refine Sn.wapp (snK S19.out) rfl (.tmp 103) (.tmp 104) 24 rfl Try.underlying24 info5 rfl rfl (Sn.reads (c := c104) (snK S19.out) (by simp)) (by omega) ?_; intro z8 hz A105 c105 w105 hS_; have Nz8 := Aside0.mk hz; have S20 := Aside0.mk hS_; clear hz hS_))
   go_ret
   refine ⟨_, rfl, ?_, S20.out.bel⟩; have hr := S20.out.row _ (List.mem_cons_self ..); rw [← HR.out, ← Nz1.out, ← Nz2.out, ← Nz3.out, ← Nz4.out, ← Nz5.out, ← Nz6.out, ← Nz7.out, ← HY.out, ← Nz8.out]; exact hr
end
end Go.Proofs.Ytllmlnagihlokaa.PFnExactBoundsOf
