-- Written by a program of this session.
import Derived.Test.YtllmlnagihlokaaShelf
import Derived.Test.YtllmlnagihlokaaPFnExactBoundsOfx0
import Derived.Test.YtllmlnagihlokaaPFnExactBoundsOfx10
import Derived.Test.YtllmlnagihlokaaPFnExactBoundsOfx14
namespace Go.Proofs.Ytllmlnagihlokaa.PFnExactBoundsOf
open Go.RowKit Go.Proofs.YtllmlnagihlokaaW.PrintWords Go.Proofs.YtllmlnagihlokaaW.PrintLast Go.Proofs.YtllmlnagihlokaaW.PrintMore
attribute [local go_sem] max2_int min2_int max_two min_two max_three min_three max_four min_four hw_string_geq hw_string_gtr hw_string_leq
set_option linter.unusedVariables false
set_option linter.unusedSimpArgs false
abbrev bq15_0 : Array Bool := #[false, false, false, false, false, false, false, false, false, false, false, false]
abbrev bq15_12 : Array Bool := #[true, true, true, true, true, true, true, true, true, true, true, true]
/-! ### impl_FilterOf: function 51 -/
mutual
def impl_FilterOf.j0 : Nat → List ByteArray → Int → Bool → Option (Int × List Int × Bool)
 | 0, _, _, _ => none
 | k + 1, x0, x1, x19 => if x19 = true then (some (0, ([] : List Int), false)) else (if 0 ≤ (mn 200 (wrap64 (Int.tdiv (wrap64 ((mx 64 (wrap64 ((x0.length : Int) * x1))) + 7)) 8))) then (if (mn 200 (wrap64 (Int.tdiv (wrap64 ((mx 64 (wrap64 ((x0.length : Int) * x1))) + 7)) 8)) : Int).toNat ≤ 281474976710656 then (impl_FilterOf.l0 k x0 (x0.length : Int) 0 (mn 8 (mx 1 (wrap64 (Int.tdiv (wrap64 (x1 * 69)) 100)))) (List.replicate (mn 200 (wrap64 (Int.tdiv (wrap64 ((mx 64 (wrap64 ((x0.length : Int) * x1))) + 7)) 8)) : Int).toNat 0)) else (none)) else (none))
def impl_FilterOf.l0 : Nat → List ByteArray → Int → Int → Int → List Int → Option (Int × List Int × Bool)
 | 0, _, _, _, _, _ => none
 | k + 1, x37, x38, x39, x276000, x276001 => if x39 < x38 then (if 0 ≤ x39 then (if x39 < (x37.length : Int) then ((impl_Filter_places.f k x276000 x276001 (rdOf ByteArray.empty x37 x39)).bind fun t277 => (impl_FilterOf.l1 k x37 x38 x39 t277 (t277.length : Int) 0 x276000 x276001)) else (none)) else (none)) else (some (x276000, x276001, true))
def impl_FilterOf.l1 : Nat → List ByteArray → Int → Int → List Int → Int → Int → Int → List Int → Option (Int × List Int × Bool)
 | 0, _, _, _, _, _, _, _, _ => none
 | k + 1, x37, x38, x39, x45, x46, x47, x276000, x276001 => if x47 < x46 then (if 0 ≤ x47 then (if x47 < (x45.length : Int) then (if 0 ≤ (wrap64 (Int.tdiv (rd x45 x47) 8)) then (if (wrap64 (Int.tdiv (rd x45 x47) 8)) < (x276001.length : Int) then (if 0 ≤ (Int.tmod (rd x45 x47) 8) then (impl_FilterOf.l1 k x37 x38 x39 x45 x46 (wrap64 (x47 + 1)) x276000 (x276001.set ((wrap64 (Int.tdiv (rd x45 x47) 8)) : Int).toNat (Go.bits .or .u8 (rd x276001 (wrap64 (Int.tdiv (rd x45 x47) 8))) (shl .u8 1 (Int.tmod (rd x45 x47) 8))))) else (none)) else (none)) else (none)) else (none)) else (none)) else (impl_FilterOf.l0 k x37 x38 (wrap64 (x39 + 1)) x276000 x276001)
end
def impl_FilterOf.f (k : Nat) (l0 : List ByteArray) (a1 : Int) : Option (Int × List Int × Bool) := if (l0.length : Int) > 100 then (impl_FilterOf.j0 k l0 a1 true) else ((impl_within.f a1 1 20).bind fun t271 => (impl_FilterOf.j0 k l0 a1 (!t271)))
set_option maxHeartbeats 8000000 in
set_option maxRecDepth 100000 in
theorem impl_FilterOf.calls (k : Nat) (A0 : Option Addr) (c0 : Nat) (l0 : List ByteArray) (a1 : Int) (r1 : Int) (r2 : List Int) (r3 : Bool) (w : World) (hr0 : Kd.C Kd.string w A0 l0.length l0) (hc0 : l0.length ≤ c0) (h : impl_FilterOf.f k l0 a1 = some (r1, r2, r3)) :
  Calls Try.prog 51 #[.slice A0 l0.length c0, .int .i64 a1] w fun e w' => ∃ v1_ : Value, e = .returned (.tuple #[.agg #[.int .i64 r1, v1_], .bool r3]) ∧ Kd.R (Kd.int .u8) 5 w' w.heap.size (fun _ => True) v1_ r2 ∧ Below w.heap.size w w' := by
 have hu64 := Try.underlying64
 have HR0 := Aside0.mk hr0
 have HC0 := Aside0.mk hc0
 clear hr0 hc0
 have HB := mK (Below.refl w.heap.size w)
 have H : (if (l0.length : Int) > 100 then (impl_FilterOf.j0 k l0 a1 true) else ((impl_within.f a1 1 20).bind fun t271 => (impl_FilterOf.j0 k l0 a1 (!t271)))) = some (r1, r2, r3) := h
 clear h
 have HC3 := Aside0.mk H
 clear H
 go_enter Try.func51, Try.ntmps51
 go_upto_region 1 with (first | ((with_reducible refine gate_dst (N := 4) rfl ?_); refine box_event ?hg (N := 4) ?hd (cs := #[.int .i64 0, .slice none 0 0]) (t := 64) ?hr ?_; (case hd => rfl); (case hg => rfl); (case hr => first | (go_simp; done) | (go_simp; rfl)); intro gb270 hg w4 hbox hb; have _ := mK (below_step (bL HB.out) hb); have _ := mK (hbox); have _ := mK (sL hg (bL HB.out)); clear HB; rename_i HB BK270 GE270; clear hb hbox hg))
 (try simp only [Act.put, sq_a, sq_b, sq_c])
 go_cut [19] (fun v19 wc => ∃ (kq : Nat) (x19_2 : Bool), v19 = .bool x19_2 ∧ Aside0 (impl_FilterOf.j0 kq l0 a1 x19_2 = some (r1, r2, r3)) ∧ Aside0 (kq ≤ k) ∧ Aside0 (wc.heap[gb270]? = some (.cells #[.int .i64 0, (.slice none 0 0)] 64 (0, 0))) ∧ Aside0 (Below w.heap.size w wc))
 case first =>
  have H := HC3.out; clear HC3
  by_cases c5 : (l0.length : Int) > 100
  ·rw [if_pos c5] at H
   have c5b0 : decide (100 < (l0.length : Int)) = true := decide_eq_true c5; have c5b1 : decide (100 < l0.length) = true := decide_eq_true (by omega); clear c5; (first | rw [c5b0] | (simp only [i64_w, i32_w]; rw [c5b0]) | skip); have H' := Aside0.mk H; clear H
   go_wp2
   go_meet
   case rel => exact ⟨_, (true), sE, H', ⟨by first | omega | exact Nat.le_refl _⟩, ⟨bK BK270.out⟩, ⟨bL HB.out⟩⟩
  ·rw [if_neg c5] at H
   have c5b0 : decide (100 < (l0.length : Int)) = false := decide_eq_false c5; have c5b1 : decide (100 < l0.length) = false := decide_eq_false (by omega); clear c5; (first | rw [c5b0] | (simp only [i64_w, i32_w]; rw [c5b0]) | skip); replace H := Option.bind_eq_some_iff.mp H; obtain ⟨t271, A60, H⟩ := H; replace H : (impl_FilterOf.j0 k l0 a1 (!t271)) = some (r1, r2, r3) := H; have A6 := Aside0.mk A60; clear A60; have H' := Aside0.mk H; clear H
   go_wp2_with (first | (go_at_call 25; (with_reducible refine (impl_within.calls a1 1 20 t271 _ A6.out).mono ?_); rintro e w' ⟨rfl, ⟨nd, rfl⟩⟩))
   go_meet
   case rel => exact ⟨_, (!t271), sE, H', ⟨by first | omega | exact Nat.le_refl _⟩, ⟨bK BK270.out⟩, ⟨bL HB.out⟩⟩
 case rest =>
  clear HC3
  try clear p2
  try clear c5
  try clear c5b0
  try clear c5b1
  obtain ⟨kq, x19_2, rfl, HA, HJ2, BK270, HB⟩ := hcut
  cases kq with
  | zero => exact absurd HA.out (by simp [impl_FilterOf.j0])
  | succ kj2 =>
   have H := HA.out; clear HA; simp only [impl_FilterOf.j0] at H
   by_cases c7 : x19_2 = true
   ·subst c7
    have H1 : (some (0, ([] : List Int), false)) = some (r1, r2, r3) := by rw [if_pos rfl] at H; exact H
    clear H; have H := H1; clear H1; simp only [Option.some.injEq, Prod.mk.injEq] at H; obtain ⟨rfl, rfl, rfl⟩ := H; obtain ⟨hcz8_0, hcz8_1⟩ := c2 BK270.out; obtain ⟨hfz8_0, hfz8_1⟩ := f2 BK270.out
    go_wp2
    refine bodyPost_ret (results_ct rfl _ _ gb270 64 #[.int .i64 0, .slice none 0 0] (0, 0) _ rfl (bK (p2 BK270.out)) Try.underlying64 rfl (by kernel_rfl)) rfl ?_; exact ⟨_, sE, by first | exact Kd.R_nil _ _ _ _ _ | exact Kd.N_nil _ _ _ _ _ | exact Kd.V_nil _ _ _ _ _ | exact Kd.Q_nil _ _ _ _ _ | exact Kd.S_nil _ _ _ _ _, bL HB.out⟩
   ·replace c7 := Bool.eq_false_iff.mpr c7
    subst c7
    have H1 : (if 0 ≤ (mn 200 (wrap64 (Int.tdiv (wrap64 ((mx 64 (wrap64 ((l0.length : Int) * a1))) + 7)) 8))) then (if (mn 200 (wrap64 (Int.tdiv (wrap64 ((mx 64 (wrap64 ((l0.length : Int) * a1))) + 7)) 8)) : Int).toNat ≤ 281474976710656 then (impl_FilterOf.l0 kj2 l0 (l0.length : Int) 0 (mn 8 (mx 1 (wrap64 (Int.tdiv (wrap64 (a1 * 69)) 100)))) (List.replicate (mn 200 (wrap64 (Int.tdiv (wrap64 ((mx 64 (wrap64 ((l0.length : Int) * a1))) + 7)) 8)) : Int).toNat 0)) else (none)) else (none)) = some (r1, r2, r3) := by rw [if_neg (show ¬ (false = true) by decide)] at H; exact H
    clear H; have H := H1; clear H1; obtain ⟨ji9, hji9⟩ : ∃ j_ : Int, (mx 64 (wrap64 ((l0.length : Int) * a1))) = j_ := ⟨_, rfl⟩
    replace H : (if 0 ≤ (mn 200 (wrap64 (Int.tdiv (wrap64 ((ji9) + 7)) 8))) then (if (mn 200 (wrap64 (Int.tdiv (wrap64 ((ji9) + 7)) 8)) : Int).toNat ≤ 281474976710656 then (impl_FilterOf.l0 kj2 l0 (l0.length : Int) 0 (mn 8 (mx 1 (wrap64 (Int.tdiv (wrap64 (a1 * 69)) 100)))) (List.replicate (mn 200 (wrap64 (Int.tdiv (wrap64 ((ji9) + 7)) 8)) : Int).toNat 0)) else (none)) else (none)) = some (r1, r2, r3) := by first | (rw [hji9] at H; exact H) | (simp only [hji9] at H ⊢; exact H)
    have hji9_ : (if 64 < (wrap64 ((l0.length : Int) * a1)) then (wrap64 ((l0.length : Int) * a1)) else 64) = ji9 := hji9; obtain ⟨ji10, hji10⟩ : ∃ j_ : Int, (mn 200 (wrap64 (Int.tdiv (wrap64 ((ji9) + 7)) 8))) = j_ := ⟨_, rfl⟩
    replace H : (if 0 ≤ (ji10) then (if (ji10 : Int).toNat ≤ 281474976710656 then (impl_FilterOf.l0 kj2 l0 (l0.length : Int) 0 (mn 8 (mx 1 (wrap64 (Int.tdiv (wrap64 (a1 * 69)) 100)))) (List.replicate (ji10 : Int).toNat 0)) else (none)) else (none)) = some (r1, r2, r3) := by first | (rw [hji10] at H; exact H) | (simp only [hji10] at H ⊢; exact H)
    have hji10_ : (if (wrap64 (Int.tdiv (wrap64 ((ji9) + 7)) 8)) < 200 then (wrap64 (Int.tdiv (wrap64 ((ji9) + 7)) 8)) else 200) = ji10 := hji10; obtain ⟨ji11, hji11⟩ : ∃ j_ : Int, (mx 1 (wrap64 (Int.tdiv (wrap64 (a1 * 69)) 100))) = j_ := ⟨_, rfl⟩
    replace H : (if 0 ≤ (ji10) then (if (ji10 : Int).toNat ≤ 281474976710656 then (impl_FilterOf.l0 kj2 l0 (l0.length : Int) 0 (mn 8 (ji11)) (List.replicate (ji10 : Int).toNat 0)) else (none)) else (none)) = some (r1, r2, r3) := by first | (rw [hji11] at H; exact H) | (simp only [hji11] at H ⊢; exact H)
    have hji11_ : (if 1 < (wrap64 (Int.tdiv (wrap64 (a1 * 69)) 100)) then (wrap64 (Int.tdiv (wrap64 (a1 * 69)) 100)) else 1) = ji11 := hji11; obtain ⟨ji12, hji12⟩ : ∃ j_ : Int, (mn 8 (ji11)) = j_ := ⟨_, rfl⟩
    replace H : (if 0 ≤ (ji10) then (if (ji10 : Int).toNat ≤ 281474976710656 then (impl_FilterOf.l0 kj2 l0 (l0.length : Int) 0 ji12 (List.replicate (ji10 : Int).toNat 0)) else (none)) else (none)) = some (r1, r2, r3) := by first | (rw [hji12] at H; exact H) | (simp only [hji12] at H ⊢; exact H)
    have hji12_ : (if (ji11) < 8 then (ji11) else 8) = ji12 := hji12
    by_cases c13 : 0 ≤ (ji10)
    ·rw [if_pos c13] at H
     have c13b0 := eq_true c13; have c13b1 : decide (0 ≤ (ji10)) = true := decide_eq_true c13; clear c13
     by_cases c14 : (ji10 : Int).toNat ≤ 281474976710656
     ·rw [if_pos c14] at H
      have c14b0 := eq_true c14; have c14b1 : decide ((ji10 : Int).toNat ≤ 281474976710656) = true := decide_eq_true c14; clear c14; obtain ⟨y272, hy272⟩ : ∃ y_ : List Int, y_ = (List.replicate (ji10 : Int).toNat 0) := ⟨_, rfl⟩
      replace H : (impl_FilterOf.l0 kj2 l0 (l0.length : Int) 0 ji12 y272) = some (r1, r2, r3) := by first | (rw [hy272]; with_reducible exact H) | (have H2_ := (Option.bind_some _ _).symm.trans H; rw [hy272]; with_reducible exact H2_) | (have H2_ := (Option.bind_some _ _).symm.trans H; with_reducible exact H2_) | with_reducible exact H | (rw [hy272]; exact H) | exact H
      have Ny272 := Aside0.mk hy272; clear hy272; have H' := Aside0.mk H; clear H
      go_wp2_with (first | ((with_reducible refine gate_dst (N := 35) rfl ?_); refine Kd.R_make (Kd.int .u8) _ 5 rfl (N := 35) rfl 24 _ _ rfl ji10 rfl rfl Try.underlying24 (.int .u8 0) 1 info5 rfl (by decide) (by omega) 0 (ok := fun _ => True) (okp := fun _ => True) rfl (fun _ hk => hk) trivial (oD) (Nat.le_trans (Nat.mul_le_mul_right _ (oD : ji10.toNat ≤ 281474976710656)) (by omega)) (Below.refl _ _) (Nat.le_refl _) ?_; intro v273 w15 ho16 hb hg_ hnew_; clear hg_ hnew_; (first | rw [← Ny272.out] at ho16 | (simp only [Int.reduceToNat] at ho16; rw [← Ny272.out] at ho16)); have _ := mK (Kd.R_lower ho16 (below_size (bL HB.out))); have _ := mK (blk_below (bK BK270.out) hb); have _ := mK (below_step (bL HB.out) hb); clear BK270 HB; rename_i HO274 BK270 HB; clear hb ho16; obtain ⟨Ao17, co17, eo17⟩ := Kd.R_slice HO274.out; subst eo17) | ((with_reducible refine gate_dst (N := 7) rfl ?_); refine box_event ?hg (N := 7) ?hd (cs := #[.int .i64 0, .slice none 0 0]) (t := 64) ?hr ?_; (case hd => rfl); (case hg => rfl); (case hr => first | (go_simp; done) | (go_simp; rfl)); intro gb275 hg w18 hbox hb; have _ := mK (Kd.R_below (rK HO274.out) hb); have _ := mK (blk_below (bK BK270.out) hb); have _ := mK (below_step (bL HB.out) hb); have _ := mK (hbox); have _ := mK (sL hg (bL HB.out)); have _ := mK (nL hg (bK BK270.out)); have _ := mK (nR hg (bK BK270.out)); clear HO274 BK270 HB; rename_i HO274 BK270 HB BK275 GE275 NB270_275 NB275_270; clear hb hbox hg; have hnb19 := NB275_270.out; have hnc19 := NB270_275.out; obtain ⟨hcz20_0, hcz20_1⟩ := c2 BK275.out; obtain ⟨hfz20_0, hfz20_1⟩ := f2 BK275.out))
      go_loopg [39] kj2 (fun kq v39 w' => ∃ (x39_2 : Int) (x276001_2 : List Int) (u276001 : Value), v39 = .int .i64 x39_2 ∧ Aside0 (impl_FilterOf.l0 kq l0 (l0.length : Int) x39_2 ji12 x276001_2 = some (r1, r2, r3)) ∧ Aside0 (kq ≤ kj2) ∧ Aside0 (Kd.R (Kd.int .u8) 5 w' w.heap.size (fun _ => True) u276001 x276001_2) ∧ Aside0 (w'.heap[gb270]? = some (.cells #[.int .i64 0, (.slice none 0 0)] 64 (0, 0))) ∧ Aside0 (w'.heap[gb275]? = some (.cells #[.int .i64 ji12, u276001] 64 (0, 0))) ∧ Aside0 (Below w.heap.size w w'))
      case atStart => exact ⟨(0), (y272), (.slice Ao17 y272.length co17), sE, H', ⟨Nat.le_refl _⟩, ⟨by (with_reducible repeat (first | apply Kd.R_alloc | apply Kd.R_drewN | apply Kd.R_drew)); exact Kd.R_mono (Kd.R_far (p := ⟨gb275, 1, none⟩) (Kd.R_far (p := ⟨gb275, 0, none⟩) (Kd.R_types HO274.out BK275.out (by decide)) (fun _ hk => hk.2) (.int .i64 ji12)) (fun _ hk => hk.2) (.slice Ao17 y272.length co17)) (fun _ hk => trivial)⟩, ⟨by (with_reducible repeat (first | refine blk_drewN ?_ _ | refine blk_drew ?_ | refine blk_alloc ?_ _)); refine blk_far ?_ NB270_275.out _; (with_reducible repeat (first | refine blk_drewN ?_ _ | refine blk_drew ?_ | refine blk_alloc ?_ _)); refine blk_far ?_ NB270_275.out _; (with_reducible repeat (first | refine blk_drewN ?_ _ | refine blk_drew ?_ | refine blk_alloc ?_ _)); exact BK270.out⟩, ⟨by (with_reducible repeat (first | refine blk_drewN ?_ _ | refine blk_drew ?_ | refine blk_alloc ?_ _)); refine blk_put (cs := #[.int .i64 ji12, .slice none 0 0]) ?_ 1 _ rfl; (with_reducible repeat (first | refine blk_drewN ?_ _ | refine blk_drew ?_ | refine blk_alloc ?_ _)); refine blk_put (cs := #[.int .i64 0, .slice none 0 0]) ?_ 0 _ rfl; (with_reducible repeat (first | refine blk_drewN ?_ _ | refine blk_drew ?_ | refine blk_alloc ?_ _)); exact BK275.out⟩, ⟨bL HB.out⟩⟩
      case round =>
       clear H'
       try clear c1
       try clear p2
       try clear c5
       try clear c5b0
       try clear c5b1
       try clear p6
       try clear c7
       try clear c13
       try clear c13b0
       try clear c13b1
       try clear c14
       try clear c14b0
       try clear c14b1
       try clear c19
       try clear hcz20_0
       try clear hcz20_1
       try clear hcz8_0
       try clear hcz8_1
       try clear hfz20_0
       try clear hfz20_1
       try clear hfz8_0
       try clear hfz8_1
       try clear p2
       obtain ⟨x39_2, x276001_2, u276001, rfl, HA, HK2, HO_276001, BK270, BK275, HB⟩ := hrel
       cases gk with
       | zero => exact absurd HA.out (by simp [impl_FilterOf.l0])
       | succ k2 =>
        have H := HA.out; clear HA; simp only [impl_FilterOf.l0] at H
        by_cases c21 : x39_2 < (l0.length : Int)
        ·rw [if_pos c21] at H
         have c21b0 : decide (x39_2 < (l0.length : Int)) = true := decide_eq_true c21; clear c21
         by_cases c22 : 0 ≤ x39_2
         ·rw [if_pos c22] at H
          have c22b0 : decide (0 ≤ x39_2) = true := decide_eq_true c22; clear c22
          by_cases c23 : x39_2 < (l0.length : Int)
          ·rw [if_pos c23] at H
           have c23b0 : decide (x39_2 < (l0.length : Int)) = true := decide_eq_true c23; clear c23; replace H := Option.bind_eq_some_iff.mp H; obtain ⟨t277, A240, H⟩ := H; replace H : (impl_FilterOf.l1 k2 l0 (l0.length : Int) x39_2 t277 (t277.length : Int) 0 ji12 x276001_2) = some (r1, r2, r3) := H; have A24 := Aside0.mk A240; clear A240; have H' := Aside0.mk H; clear H; have p276 : 0 ≤ (x39_2 : Int) := oD; have q276 : x39_2 < (l0.length : Int) := oD; obtain ⟨ad276, e276, hx276_0⟩ := Kd.at_string HR0.out x39_2 p276 q276
           cases e276
           try (replace hx276_0 := (HB.out.cell (World.block_lt_of_cell? w _ hx276_0)).trans hx276_0)
           replace p276 := eq_true p276; replace q276 := eq_true q276; have hnb25 := NB275_270.out; have hnc25 := NB270_275.out; obtain ⟨hcz26_0, hcz26_1⟩ := c2 BK275.out; obtain ⟨hfz26_0, hfz26_1⟩ := f2 BK275.out; obtain ⟨Ao27, co27, eo27⟩ := Kd.R_slice HO_276001.out; subst eo27
           go_wp2_with (first | ((with_reducible refine gate_callee (f := 80) rfl ?_); refine goesL_ (some 45) rfl rfl Try.func80 (by kernel_rfl) rfl #[.agg #[.int .i64 ji12, .slice Ao27 x276001_2.length co27], .string (rdOf ByteArray.empty l0 x39_2)] rfl (by (try simp only [List.map_toArray, List.map_cons, List.map_nil]); first | done | (simp only [hji12]; rfl) | rfl | (simp only [List.length_drop, List.length_take]; rfl)) ?_; (with_reducible refine (impl_Filter_places.calls k2 ji12 _ _ x276001_2 (rdOf ByteArray.empty l0 x39_2) t277 _ ?side1 ?side2 A24.out).mono ?_); (case side1 => exact cK (Kd.R_reads' HO_276001.out).2.2); (case side2 => exact (Kd.R_reads' HO_276001.out).2.1); rintro e w28 ⟨v278, rfl, ho0, hb⟩; refine ⟨_, rfl, ?_⟩; have _ := mK (Kd.R_below (rK HO_276001.out) hb); have _ := mK (Kd.R_lower ho0 (below_size (bL HB.out))); have _ := mK (blk_below (bK BK270.out) hb); have _ := mK (blk_below (bK BK275.out) hb); have _ := mK (below_step (bL HB.out) hb); clear HO_276001 BK270 BK275 HB; rename_i HO_276001 HO279 BK270 BK275 HB; (try clear hb); (try clear hb2); (try clear hk); (try clear hi); (try clear ho0); obtain ⟨Ao29, co29, eo29⟩ := Kd.R_slice HO279.out; subst eo29))
           go_loopg [47] k2 (fun kq v47 w' => ∃ (x47_3 : Int) (x276001_3 : List Int) (u276001 : Value), v47 = .int .i64 x47_3 ∧ Aside0 (impl_FilterOf.l1 kq l0 (l0.length : Int) x39_2 t277 (t277.length : Int) x47_3 ji12 x276001_3 = some (r1, r2, r3)) ∧ Aside0 (kq ≤ k2) ∧ Aside0 (Kd.R (Kd.int .i64) 3 w' w.heap.size (fun _ => True) (.slice Ao29 t277.length co29) t277) ∧ Aside0 (Kd.R (Kd.int .u8) 5 w' w.heap.size (fun _ => True) u276001 x276001_3) ∧ Aside0 (w'.heap[gb270]? = some (.cells #[.int .i64 0, (.slice none 0 0)] 64 (0, 0))) ∧ Aside0 (w'.heap[gb275]? = some (.cells #[.int .i64 ji12, u276001] 64 (0, 0))) ∧ Aside0 (Below w.heap.size w w'))
           case atStart => exact ⟨(0), (x276001_2), (.slice Ao27 x276001_2.length co27), sE, H', ⟨Nat.le_refl _⟩, ⟨rK HO279.out⟩, ⟨rK HO_276001.out⟩, ⟨bK BK270.out⟩, ⟨bK BK275.out⟩, ⟨bL HB.out⟩⟩
           case round =>
            clear H'
            try clear c1
            try clear c2
            try clear p2
            try clear q2
            try clear hx2
            try clear c5
            try clear c5b0
            try clear c5b1
            try clear p6
            try clear c7
            try clear c8
            try clear c13
            try clear c13b0
            try clear c13b1
            try clear c14
            try clear c14b0
            try clear c14b1
            try clear c19
            try clear c21
            try clear c21b0
            try clear c22
            try clear c22b0
            try clear c23
            try clear c23b0
            try clear c25
            try clear p27
            try clear q27
            try clear hx27
            try clear hcz20_0
            try clear hcz20_1
            try clear hcz26_0
            try clear hcz26_1
            try clear hcz8_0
            try clear hcz8_1
            try clear hfz20_0
            try clear hfz20_1
            try clear hfz26_0
            try clear hfz26_1
            try clear hfz8_0
            try clear hfz8_1
            try clear hx276_0
            try clear p2
            try clear p276
            try clear p6
            try clear q276
            obtain ⟨x47_3, x276001_3, u276001, rfl, HA, HK3, HO_45, HO_276001, BK270, BK275, HB⟩ := hrel
            cases gk with
            | zero => exact absurd HA.out (by simp [impl_FilterOf.l1])
            | succ k3 =>
             have H := HA.out; clear HA; simp only [impl_FilterOf.l1] at H
             by_cases c30 : x47_3 < (t277.length : Int)
             ·rw [if_pos c30] at H
              have c30b0 : decide (x47_3 < (t277.length : Int)) = true := decide_eq_true c30; clear c30
              by_cases c31 : 0 ≤ x47_3
              ·rw [if_pos c31] at H
               have c31b0 : decide (0 ≤ x47_3) = true := decide_eq_true c31; clear c31
               by_cases c32 : x47_3 < (t277.length : Int)
               ·rw [if_pos c32] at H
                have c32b0 : decide (x47_3 < (t277.length : Int)) = true := decide_eq_true c32; clear c32; obtain ⟨ji33, hji33⟩ : ∃ j_ : Int, (wrap64 (Int.tdiv (rd t277 x47_3) 8)) = j_ := ⟨_, rfl⟩
                replace H : (if 0 ≤ (ji33) then (if (ji33) < (x276001_3.length : Int) then (if 0 ≤ (Int.tmod (rd t277 x47_3) 8) then (impl_FilterOf.l1 k3 l0 (l0.length : Int) x39_2 t277 (t277.length : Int) (wrap64 (x47_3 + 1)) ji12 (x276001_3.set ((ji33) : Int).toNat (Go.bits .or .u8 (rd x276001_3 (ji33)) (shl .u8 1 (Int.tmod (rd t277 x47_3) 8))))) else (none)) else (none)) else (none)) = some (r1, r2, r3) := by first | (rw [hji33] at H; exact H) | (simp only [hji33] at H ⊢; exact H)
                have hji33w : (IntKind.i64.wrap (Int.tdiv (rd t277 x47_3) 8)) = ji33 := (i64_w _).trans hji33
                by_cases c34 : 0 ≤ (ji33)
                ·rw [if_pos c34] at H
                 have c34b0 : decide (0 ≤ (ji33)) = true := decide_eq_true c34; clear c34
                 by_cases c35 : (ji33) < (x276001_3.length : Int)
                 ·rw [if_pos c35] at H
                  have c35b0 : decide ((ji33) < (x276001_3.length : Int)) = true := decide_eq_true c35; clear c35; obtain ⟨ji36, hji36⟩ : ∃ j_ : Int, (Int.tmod (rd t277 x47_3) 8) = j_ := ⟨_, rfl⟩
                  replace H : (if 0 ≤ (ji36) then (impl_FilterOf.l1 k3 l0 (l0.length : Int) x39_2 t277 (t277.length : Int) (wrap64 (x47_3 + 1)) ji12 (x276001_3.set ((ji33) : Int).toNat (Go.bits .or .u8 (rd x276001_3 (ji33)) (shl .u8 1 (ji36))))) else (none)) = some (r1, r2, r3) := by first | (rw [hji36] at H; exact H) | (simp only [hji36] at H ⊢; exact H)
                  by_cases c37 : 0 ≤ (ji36)
                  ·rw [if_pos c37] at H
                   have c37b0 := eq_true c37; have c37b1 : decide (0 ≤ (ji36)) = true := decide_eq_true c37; clear c37; obtain ⟨ji38, hji38⟩ : ∃ j_ : Int, (shl .u8 1 (ji36)) = j_ := ⟨_, rfl⟩
                   replace H : (impl_FilterOf.l1 k3 l0 (l0.length : Int) x39_2 t277 (t277.length : Int) (wrap64 (x47_3 + 1)) ji12 (x276001_3.set ((ji33) : Int).toNat (Go.bits .or .u8 (rd x276001_3 (ji33)) (ji38)))) = some (r1, r2, r3) := by first | (rw [hji38] at H; exact H) | (simp only [hji38] at H ⊢; exact H)
                   have hji38_ : (IntKind.u8.wrap (1 * 2 ^ min (ji36).toNat 8)) = ji38 := hji38; have hji38z : (ji36) ≤ 8 → (IntKind.u8.wrap (1 * 2 ^ (ji36).toNat)) = ji38 := shl_small hji38
                   have hji38u : (IntKind.u8.wrap (2 ^ min (ji36).toNat 8)) = ji38 := by have h_ := hji38_; rw [Int.one_mul] at h_; exact h_
                   have hji38v : (ji36) ≤ 8 → (IntKind.u8.wrap (2 ^ (ji36).toNat)) = ji38 := fun hle_ => by have h_ := hji38z hle_; rw [Int.one_mul] at h_; exact h_
                   obtain ⟨y282, hy282⟩ : ∃ y_ : List Int, y_ = (x276001_3.set ((ji33) : Int).toNat (Go.bits .or .u8 (rd x276001_3 (ji33)) (ji38))) := ⟨_, rfl⟩
                   replace H : (impl_FilterOf.l1 k3 l0 (l0.length : Int) x39_2 t277 (t277.length : Int) (wrap64 (x47_3 + 1)) ji12 y282) = some (r1, r2, r3) := by first | (rw [hy282]; with_reducible exact H) | (have H2_ := (Option.bind_some _ _).symm.trans H; rw [hy282]; with_reducible exact H2_) | (have H2_ := (Option.bind_some _ _).symm.trans H; with_reducible exact H2_) | with_reducible exact H | (rw [hy282]; exact H) | exact H
                   have Ny282 := Aside0.mk hy282; clear hy282; have H' := Aside0.mk H; clear H; have p280 : 0 ≤ (x47_3 : Int) := oD; have q280 : x47_3 < (t277.length : Int) := oD; obtain ⟨ad280, e280, hx280_0⟩ := Kd.at_int (Kd.R_reads' HO_45.out).2.2 x47_3 p280 q280
                   cases e280
                   replace p280 := eq_true p280; replace q280 := eq_true q280
                   try go_wp2
                   have _ := mK (Kd.R_drew HO_45.out); have _ := mK (Kd.R_drew HO_276001.out); have _ := mK (blk_drew BK270.out); have _ := mK (blk_drew BK275.out); have _ := mK (below_drew1 HB.out); clear HO_45 HO_276001 BK270 BK275 HB; rename_i HO_45 HO_276001 BK270 BK275 HB; obtain ⟨Ao41, co41, eo41⟩ := Kd.R_slice HO_276001.out; (first | subst eo41 | (injection eo41 with f1_ f2_ f3_; have f4_ := f1_.symm; have f5_ := f3_.symm; clear f1_ f2_ f3_; subst f4_; subst f5_)); have p281 : 0 ≤ ((ji33) : Int) := oD; have q281 : (ji33) < (x276001_3.length : Int) := oD; obtain ⟨ad281, e281, hx281_0⟩ := Kd.at_int (Kd.R_reads' HO_276001.out).2.2 (ji33) p281 q281
                   cases e281
                   replace p281 := eq_true p281; replace q281 := eq_true q281; have p39 : 0 ≤ ((ji33) : Int) := oD; have q39 : ((ji33) : Int) < ((x276001_3.length : Int) : Int) := oD; obtain ⟨go39, co39, eo39, gb39, gl39, cl39, HG39⟩ := Kd.R_form HO_276001.out (by omega); (first | cases eo39 | (injection eo39 with ea_ en_ ec_; (first | subst ea_ | (injection ea_ with ea_; subst ea_)); subst ec_; clear en_)); have GB39 := Aside0.mk gb39; have GG39 := Aside0.mk HG39; clear gb39 gl39 HG39; (first | simp only [add_plain] at hx281_0 | skip); obtain ⟨hx39_0, hf39_0⟩ := Kd.R_celln 0 HO_276001.out ((ji33) : Int) p39 q39; replace p39 := eq_true p39; replace q39 := eq_true q39; have HP42 := Kd.R_putn HO_276001.out ((ji33) : Int) (Go.bits .or .u8 (rd x276001_3 (ji33)) (ji38)); rw [← Ny282.out] at HP42; have HQ42 := Aside0.mk HP42; clear HP42
                   refine start_ (n := 12) (S := fun w' => Q2 w' gb275 (.int .i64 ji12) (.slice (some ⟨go39, 0, none⟩) x276001_3.length co41) (w'.cell? ⟨go39, ((ji33)).toNat, none⟩ = some (.int .u8 (rd x276001_3 (ji33))))) (ds := [11]) bq15_0 (by kernel_rfl) rfl rfl (q2 BK275.out hx281_0) (fun hHeld => ?_)
                   generalize wr.drew = w40 at HO_45 HO_276001 BK270 BK275 HB GG39 HQ42 hf39_0 hx281_0 hx39_0 hHeld ⊢; refine pu_ 0 51 ?_
                   refine pu_ 2 53 ?_
                   refine pu_ 3 54 ?_
                   refine pu_ 6 57 ?_
                   refine pu_ 7 58 ?_
                   refine pu_ 8 59 ?_
                   refine tk_ 1 52 hHeld ?_
                   refine pu_ 4 55 ?_
                   refine tk_ 5 56 hHeld ?_
                   refine pu_ 9 60 ?_
                   refine pu_ 10 61 ?_
                   refine last_ (i := 11) (N := none) bq15_12 rfl rfl (by kernel_rfl) (by decide) (fun K hK => ?_); refine skip_ (w1 := ?_) (by rfl) rfl ?_ ?_; rotate_left; · go_simp; rfl
                   refine hK.out _ _ ?_; clear hK K; refine done_ (by kernel_rfl) ?_
                   try go_wp2
                   go_roundg k3
                   case measure => have := HJ2.out; have := HK2.out; have := HK3.out; omega
                   case rel => exact ⟨(wrap64 (x47_3 + 1)), (y282), (.slice (some ⟨go39, 0, none⟩) x276001_3.length co41), sE, H', ⟨by have := HJ2.out; have := HK2.out; have := HK3.out; omega⟩, ⟨by (with_reducible repeat (first | apply Kd.R_alloc | apply Kd.R_drewN | apply Kd.R_drew)); exact Kd.R_mono (Kd.R_far (p := ⟨go39, ((ji33) : Int).toNat, none⟩) (Kd.R_types HO_45.out GG39.out (by decide)) (fun _ hk => hk.2) (.int .u8 (Go.bits .or .u8 (rd x276001_3 (ji33)) (ji38)))) (fun _ hk => trivial)⟩, ⟨rK HQ42.out⟩, ⟨by (with_reducible repeat (first | refine blk_drewN ?_ _ | refine blk_drew ?_ | refine blk_alloc ?_ _)); refine blk_far ?_ (by have h_ := Kd.R_ne HO_276001.out BK270.out (by decide); intro e_; exact h_ (by rw [e_]; rfl)) _; (with_reducible repeat (first | refine blk_drewN ?_ _ | refine blk_drew ?_ | refine blk_alloc ?_ _)); exact BK270.out⟩, ⟨by (with_reducible repeat (first | refine blk_drewN ?_ _ | refine blk_drew ?_ | refine blk_alloc ?_ _)); refine blk_far ?_ (by have h_ := Kd.R_ne HO_276001.out BK275.out (by decide); intro e_; exact h_ (by rw [e_]; rfl)) _; (with_reducible repeat (first | refine blk_drewN ?_ _ | refine blk_drew ?_ | refine blk_alloc ?_ _)); exact BK275.out⟩, ⟨bL HB.out⟩⟩
                  ·rw [if_neg c37] at H; exact absurd H (by simp)
                 ·rw [if_neg c35] at H; exact absurd H (by simp)
                ·rw [if_neg c34] at H; exact absurd H (by simp)
               ·rw [if_neg c32] at H; exact absurd H (by simp)
              ·rw [if_neg c31] at H; exact absurd H (by simp)
             ·rw [if_neg c30] at H
              have c30b0 : decide (x47_3 < (t277.length : Int)) = false := decide_eq_false c30; clear c30; have H' := Aside0.mk H; clear H
              go_wp2
              go_roundg k3
              case measure => have := HJ2.out; have := HK2.out; have := HK3.out; omega
              case rel => exact ⟨(wrap64 (x39_2 + 1)), (x276001_3), (u276001), sE, H', ⟨by have := HJ2.out; have := HK2.out; have := HK3.out; omega⟩, ⟨rK HO_276001.out⟩, ⟨bK BK270.out⟩, ⟨bK BK275.out⟩, ⟨bL HB.out⟩⟩
          ·rw [if_neg c23] at H; exact absurd H (by simp)
         ·rw [if_neg c22] at H; exact absurd H (by simp)
        ·rw [if_neg c21] at H
         have c21b0 : decide (x39_2 < (l0.length : Int)) = false := decide_eq_false c21; clear c21; simp only [Option.some.injEq, Prod.mk.injEq] at H; obtain ⟨rfl, rfl, rfl⟩ := H; have hnb43 := NB275_270.out; have hnc43 := NB270_275.out; obtain ⟨_, _⟩ := c2 BK275.out; obtain ⟨_, _⟩ := f2 BK275.out; obtain ⟨_, _⟩ := c2 BK270.out; obtain ⟨_, _⟩ := f2 BK270.out; obtain ⟨Ao46, co46, eo46⟩ := Kd.R_slice HO_276001.out; subst eo46
         go_wp2
         refine bodyPost_ret (results_ct rfl _ _ gb270 64 #[.int .i64 ji12, .slice Ao46 x276001_2.length co46] (0, 0) _ rfl (bK (p2 BK270.out)) Try.underlying64 rfl (by kernel_rfl)) rfl ?_; exact ⟨_, by first | rfl | (simp [errW_none, errW_some] <;> rfl) | (simp only [← hji9, ← hji10, ← hji11, ← hji12]; first | rfl | (simp [errW_none, errW_some] <;> rfl)) | (simp [*, errW_none, errW_some] <;> rfl), by (with_reducible repeat (first | apply Kd.R_alloc | apply Kd.R_drewN | apply Kd.R_drew)); exact Kd.R_mono (Kd.R_far (p := ⟨gb270, 1, none⟩) (Kd.R_far (p := ⟨gb270, 0, none⟩) (Kd.R_types HO_276001.out BK270.out (by decide)) (fun _ hk => hk.2) (.int .i64 ji12)) (fun _ hk => hk.2) (.slice Ao46 x276001_2.length co46)) (fun _ hk => trivial), bL HB.out⟩
     ·rw [if_neg c14] at H; exact absurd H (by simp)
    ·rw [if_neg c13] at H; exact absurd H (by simp)
/-! ### slices_Compact_string_string: function 81, by hand -/
def slices_Compact_string_string.dl (l : List ByteArray) : List (List UInt8) := l.map fun s => s.data.toList
/-- each text once that stands beside its like -/
def slices_Compact_string_string.cp (l : List ByteArray) : List ByteArray := (Lib.compact (slices_Compact_string_string.dl l)).map fun z => ⟨z.toArray⟩
theorem slices_Compact_string_string.enc (s : ByteArray) : encStr s.data.toList = .string s := by cases s; rfl
def slices_Compact_string_string.f (l0 : List ByteArray) : Option (List ByteArray) := if l0.length ≤ 9223372036854775807 then some (slices_Compact_string_string.cp l0) else none
theorem slices_Compact_string_string.cells {g cap : Nat} {cur : Array Value} {e : TypeId} {w : World} {l : List ByteArray} (hb : w.heap[g]? = some (.cells cur e (0, 0))) (ht : cur.toList.take (l.length * 1) = encs Value.string l) (hn : l.length ≤ cap) (hs : cur.size = cap * 1) : Go.Sort.Holds encStr w g 0 (slices_Compact_string_string.dl l).toArray := by
 intro j hj
 have hj2 : j < l.length := by simpa [slices_Compact_string_string.dl] using hj
 refine ⟨?_, ?_⟩
 ·rw [Nat.zero_add]
  refine (blk_cell hb j).trans ?_
  have h1 : cur[j]? = (cur.toList.take (l.length * 1))[j]? := by
   rw [List.getElem?_take_of_lt (by omega), Array.getElem?_toList]
  rw [h1, ht]
  simp [encs, hj2, slices_Compact_string_string.dl, slices_Compact_string_string.enc]
 ·rw [Nat.zero_add]; exact blk_frozen hb j
theorem slices_Compact_string_string.put {cap : Nat} {cur : Array Value} {n : Nat} {d : List (List UInt8)} (hd : d.length = n) (hn : n ≤ cap) (hs : cur.size = cap * 1) (m : Nat) (hm : m ≤ n) : (Go.Sort.putCells encStr 0 d.toArray cur).toList.take (m * 1) = (d.take m).map encStr := by
 apply List.ext_getElem?
 intro k
 by_cases hk : k < m
 ·have h1 : k < cur.size := by omega
  have h2 : k < d.length := by omega
  rw [List.getElem?_take_of_lt (by omega)]
  simp [Go.Sort.putCells, hk, h1, h2]
 ·rw [List.getElem?_eq_none (by simp; omega), List.getElem?_eq_none (by simp; omega)]
theorem slices_Compact_string_string.enc2 (z : List UInt8) : encStr z = .string ⟨z.toArray⟩ := rfl
theorem slices_Compact_string_string.cp_len (l : List ByteArray) : (slices_Compact_string_string.cp l).length = (Lib.compact (slices_Compact_string_string.dl l)).length := List.length_map _
theorem slices_Compact_string_string.encs_cp (l : List ByteArray) : (Lib.compact (slices_Compact_string_string.dl l)).map encStr = encs Value.string (slices_Compact_string_string.cp l) := by
 unfold encs slices_Compact_string_string.cp
 rw [List.map_map]
 rfl
set_option maxHeartbeats 8000000 in
set_option maxRecDepth 100000 in
theorem slices_Compact_string_string.calls (P0_ : Nat → Prop) (u9000_ : Value) (l0 : List ByteArray) (r1 : List ByteArray) (w0 w : World) (hB : Below w0.heap.size w0 w) (ho0 : Kd.R Kd.string 9 w w0.heap.size P0_ u9000_ l0) (h : slices_Compact_string_string.f l0 = some (r1)) :
  Calls Try.prog 81 #[u9000_] w fun e w' => ∃ v0_ : Value, e = .returned (v0_) ∧ Kd.R Kd.string 9 w' w0.heap.size (fun k_ => (P0_ k_ ∨ w.heap.size ≤ k_)) v0_ r1 ∧ Below w0.heap.size w0 w' ∧ Kept w w' (fun k_ => P0_ k_) := by
 unfold slices_Compact_string_string.f at h
 by_cases hsz : l0.length ≤ 9223372036854775807
 ·rw [if_pos hsz] at h
  obtain rfl := Option.some.inj h; clear h; have ho := Kd.own_of_R ho0; obtain ⟨hlen, ⟨rfl, h0⟩ | ⟨g, cap, cur, rfl, hbase, hheap, hncap, hcap, hsize, htake⟩⟩ := ho; · have hnil : l0 = [] := List.eq_nil_of_length_eq_zero h0; subst hnil; refine (Go.Proofs.Try.slices_Compact_string_empty none 0 w).mono ?_; rintro e w' ⟨rfl, rfl⟩; exact ⟨_, rfl, Kd.R_nil _ _ _ _ _, hB, Kept.refl _ _⟩
  ·have hg : g < w.heap.size := blk_lt hheap
   have hdll : (slices_Compact_string_string.dl l0).length = l0.length := List.length_map _; have hcall := Go.Proofs.Try.slices_Compact_string g 0 cap (slices_Compact_string_string.dl l0) w (slices_Compact_string_string.cells hheap htake hncap hsize) (by omega) (by omega); rw [hdll] at hcall; refine hcall.mono ?_; rintro e w' ⟨rfl, q, rfl⟩
   have hcl : (Lib.compact (slices_Compact_string_string.dl l0)).length ≤ l0.length := by
    unfold Lib.compact Lib.compactUpTo
    rw [List.length_map]; exact Nat.le_trans (List.length_filter_le _ _) (by simp [slices_Compact_string_string.dl])
   obtain ⟨d, hd⟩ : ∃ d, d = Lib.compact (slices_Compact_string_string.dl l0) ++ List.replicate (l0.length - (Lib.compact (slices_Compact_string_string.dl l0)).length) [] := ⟨_, rfl⟩
   have hdl : d.length = l0.length := by rw [hd]; simp; omega
   rw [← hd]
   have hw : ∀ i, i ≠ g → (Go.Sort.putRow encStr (Go.Sort.ahead w q) g 0 d.toArray).heap[i]? = w.heap[i]? := by
    intro i hne
    show (w.heap.modify g _)[i]? = _
    rw [Array.getElem?_modify, if_neg (fun e => hne e.symm)]
   have hgn : (Go.Sort.putRow encStr (Go.Sort.ahead w q) g 0 d.toArray).heap[g]? = some (.cells (Go.Sort.putCells encStr 0 d.toArray cur) 9 (0, 0)) := by
    show (w.heap.modify g _)[g]? = _
    rw [Array.getElem?_modify, if_pos rfl, hheap]; rfl
   have hsz2 : w.heap.size ≤ (Go.Sort.putRow encStr (Go.Sort.ahead w q) g 0 d.toArray).heap.size := by simp
   refine ⟨_, rfl, ?_, ?_, ⟨hsz2, fun i hi hn => hw i (fun e => hn (e ▸ ho0.1 g rfl))⟩⟩; · rw [← slices_Compact_string_string.cp_len]; refine Kd.R_of_own (enc := Value.string) ⟨by simp [encs], .inr ⟨g, cap, _, rfl, hbase, hgn, by rw [slices_Compact_string_string.cp_len]; exact Nat.le_trans hcl hncap, hcap, by simpa [Go.Sort.putCells] using hsize, ?_⟩⟩ (fun k hk => .inl (ho0.1 k hk)); rw [slices_Compact_string_string.put hdl hncap hsize _ (by rw [slices_Compact_string_string.cp_len]; exact hcl), hd, slices_Compact_string_string.cp_len, List.take_left, slices_Compact_string_string.encs_cp]
   ·exact ⟨hB.os, hB.tape, hB.output, Nat.le_trans hB.size hsz2, fun i hi => (hw i (by omega)).trans (hB.block i hi)⟩
 ·rw [if_neg hsz] at h
  cases h
/-! ### impl_keysOf: function 52 -/
def impl_keysOf.l0 : Nat → List ByteArray → List (S51) → Int → Int → Option (List ByteArray)
 | 0, _, _, _, _ => none
 | k + 1, x3, x7, x8, x9 => if x9 < x8 then (if 0 ≤ x9 then (if x9 < (x7.length : Int) then (if x3.length < 8796093022208 then (impl_keysOf.l0 k (x3 ++ [(rd_T51 x7 x9).f0]) x7 x8 (wrap64 (x9 + 1))) else (none)) else (none)) else (none)) else ((slices_Compact_string_string.f x3).bind fun t291 => (some t291))
def impl_keysOf.f (k : Nat) (l0 : List (S51)) : Option (List ByteArray) := impl_keysOf.l0 k (([] : List ByteArray)) l0 (l0.length : Int) 0
set_option maxHeartbeats 8000000 in
set_option maxRecDepth 100000 in
theorem impl_keysOf.calls (k : Nat) (A0 : Option Addr) (c0 : Nat) (l0 : List (S51)) (r : List ByteArray) (w : World) (hr0 : Kd.C k51 w A0 l0.length l0) (hc0 : l0.length ≤ c0) (h : impl_keysOf.f k l0 = some r) :
  Calls Try.prog 52 #[.slice A0 l0.length c0] w fun e w' => ∃ v0_ : Value, e = .returned (v0_) ∧ Kd.R Kd.string 9 w' w.heap.size (fun _ => True) v0_ r ∧ Below w.heap.size w w' := by
 have hu51 := Try.underlying51
 have HR0 := Aside0.mk hr0
 have HC0 := Aside0.mk hc0
 clear hr0 hc0
 have HB := mK (Below.refl w.heap.size w)
 have H : (impl_keysOf.l0 k (([] : List ByteArray)) l0 (l0.length : Int) 0) = some r := h
 clear h
 obtain ⟨y283, hy283⟩ : ∃ y_ : List ByteArray, y_ = (([] : List ByteArray)) := ⟨_, rfl⟩
 replace H : (impl_keysOf.l0 k y283 l0 (l0.length : Int) 0) = some r := by first | (rw [hy283]; with_reducible exact H) | (have H2_ := (Option.bind_some _ _).symm.trans H; rw [hy283]; with_reducible exact H2_) | (have H2_ := (Option.bind_some _ _).symm.trans H; with_reducible exact H2_) | with_reducible exact H | (rw [hy283]; exact H) | exact H
 have Ny283 := Aside0.mk hy283
 clear hy283
 have H' := Aside0.mk H
 clear H
 go_enter Try.func52, Try.ntmps52
 go_wp2_with (first | ((with_reducible refine gate_dst (N := 6) rfl ?_); refine Kd.R_lit Kd.string _ 9 ?hg (N := 6) ?hd (xs := ([] : List ByteArray)) (inner := []) (ok := fun _ => True) (okp := fun _ => True) ?hr ?hp (fun _ hk => hk) trivial (Below.refl _ _) (Nat.le_refl _) (by simp) ?_; (case hd => rfl); (case hg => rfl); (case hr => first | (go_simp; done) | (go_simp; rfl)); (case hp => exact (Reps.none _ _)); intro v284 w2 ho3 hb hg_ hnew_; clear hg_ hnew_; (first | rw [← Ny283.out] at ho3 | (simp only [Int.reduceToNat] at ho3; rw [← Ny283.out] at ho3)); have _ := mK (Kd.R_lower ho3 (below_size (bL HB.out))); have _ := mK (below_step (bL HB.out) hb); clear HB; rename_i HO285 HB; clear hb ho3))
 go_loopg [3, 9] k (fun kq v3 v9 w' => ∃ (x3_1 : List ByteArray) (x9_1 : Int), v9 = .int .i64 x9_1 ∧ Aside0 (impl_keysOf.l0 kq x3_1 l0 (l0.length : Int) x9_1 = some r) ∧ Aside0 (kq ≤ k) ∧ Aside0 (Kd.R Kd.string 9 w' w.heap.size (fun _ => True) v3 x3_1) ∧ Aside0 (Below w.heap.size w w'))
 case atStart => exact ⟨(y283), (0), sE, H', ⟨Nat.le_refl _⟩, ⟨rK HO285.out⟩, ⟨bL HB.out⟩⟩
 case round =>
  clear H'
  try clear p2
  obtain ⟨x3_1, x9_1, rfl, HA, HK1, HO_3, HB⟩ := hrel
  cases gk with
  | zero => exact absurd HA.out (by simp [impl_keysOf.l0])
  | succ k1 =>
   have H := HA.out; clear HA; simp only [impl_keysOf.l0] at H
   by_cases c4 : x9_1 < (l0.length : Int)
   ·rw [if_pos c4] at H
    have c4b0 : decide (x9_1 < (l0.length : Int)) = true := decide_eq_true c4; clear c4
    by_cases c5 : 0 ≤ x9_1
    ·rw [if_pos c5] at H
     have c5b0 : decide (0 ≤ x9_1) = true := decide_eq_true c5; clear c5
     by_cases c6 : x9_1 < (l0.length : Int)
     ·rw [if_pos c6] at H
      have c6b0 : decide (x9_1 < (l0.length : Int)) = true := decide_eq_true c6; clear c6
      by_cases c7 : x3_1.length < 8796093022208
      ·rw [if_pos c7] at H
       have LMc7 := Aside0.mk c7; clear c7; obtain ⟨y288, hy288⟩ : ∃ y_ : List ByteArray, y_ = (x3_1 ++ [(rd_T51 l0 x9_1).f0]) := ⟨_, rfl⟩
       replace H : (impl_keysOf.l0 k1 y288 l0 (l0.length : Int) (wrap64 (x9_1 + 1))) = some r := by first | (rw [hy288]; with_reducible exact H) | (have H2_ := (Option.bind_some _ _).symm.trans H; rw [hy288]; with_reducible exact H2_) | (have H2_ := (Option.bind_some _ _).symm.trans H; with_reducible exact H2_) | with_reducible exact H | (rw [hy288]; exact H) | exact H
       have Ny288 := Aside0.mk hy288; clear hy288; have H' := Aside0.mk H; clear H; have p286 : 0 ≤ (x9_1 : Int) := oD; have q286 : x9_1 < (l0.length : Int) := oD; obtain ⟨ad286, A286_7, c286_7, e286, hx286_0, hx286_1, hx286_2, hx286_3, hx286_4, hx286_5, hx286_6, hx286_7, hx286_8, hl286_7, hi286_7⟩ := at_T51B HR0.out HB.out x9_1 p286 q286
       cases e286
       have HR286_7 := Aside0.mk hi286_7; have HC286_7 := Aside0.mk hl286_7; clear hi286_7 hl286_7; replace p286 := eq_true p286; replace q286 := eq_true q286
       go_wp2_with (first | ((with_reducible refine gate_dst (N := 5) rfl ?_); refine box_event ?hg (N := 5) ?hd (cs := #[.string (⟨#[]⟩ : ByteArray), .int .i64 0, .int .i64 0, .int .i64 0, .int .i64 0, .int .i64 0, .int .i64 0, .slice none 0 0, .bool false]) (t := 51) ?hr ?_; (case hd => rfl); (case hg => rfl); (case hr => first | (go_simp; done) | (go_simp; rfl)); intro gb287 hg w8 hbox hb; have _ := mK (Kd.R_below (rK HO_3.out) hb); have _ := mK (below_step (bL HB.out) hb); have _ := mK (hbox); have _ := mK (sL hg (bL HB.out)); clear HO_3 HB; rename_i HO_3 HB BK287 GE287; clear hb hbox hg; obtain ⟨_, _, _, _, _, _, _, _, _⟩ := kc9 BK287.out; obtain ⟨_, _, _, _, _, _, _, _, _⟩ := kf9 BK287.out) | ((with_reducible refine gate_builtin (b := .append) (xs := #[.tmp 13, .tmp 16]) rfl ?_); at_builtin; refine Kd.R_append Kd.string (w0 := w) w.heap.size rfl (.tmp 13) (.tmp 16) 66 9 (.string ⟨#[]⟩) 16 rfl Try.underlying66 info9 rfl (by decide) (by omega) u3 x3_1 ((rd_T51 l0 x9_1).f0) [.string ((rd_T51 l0 x9_1).f0)] (fun _ => True) (fun _ => False) rfl (by first | (go_simp; done) | (go_simp; rfl)) ?aP (fun _ hk => hk.elim) ?aF ?aO ?aB ?aS ?aL ?_; (case aP => exact rfl); (case aB => exact (bL HB.out)); (case aF => exact (fun _ _ => trivial)); (case aO => exact (Kd.R_mono (rS HO_3.out BK287.out) (fun _ _ => trivial))); (case aS => exact (below_size (bL HB.out))); (case aL => have := LMc7.out; omega); intro v289 w10 ho hb hg hat; rw [← Ny288.out] at ho; have _ := mK (blk_grown (bK (p9 BK287.out)) hg (Kd.R_ne HO_3.out BK287.out (by decide))); have _ := mK (hb); have _ := mK (ho); clear BK287 HB HO_3; rename_i BK287 HB HO290; clear ho hb hg hat))
       go_roundg k1
       case measure => have := HK1.out; omega
       case rel => exact ⟨(y288), (wrap64 (x9_1 + 1)), sE, H', ⟨by have := HK1.out; omega⟩, ⟨rK HO290.out⟩, ⟨bL HB.out⟩⟩
      ·rw [if_neg c7] at H; exact absurd H (by simp)
     ·rw [if_neg c6] at H; exact absurd H (by simp)
    ·rw [if_neg c5] at H; exact absurd H (by simp)
   ·rw [if_neg c4] at H
    have c4b0 : decide (x9_1 < (l0.length : Int)) = false := decide_eq_false c4; clear c4; replace H := Option.bind_eq_some_iff.mp H; obtain ⟨t291, A110, H⟩ := H; (try dsimp only at H); have A11 := Aside0.mk A110; clear A110; obtain rfl := Option.some.inj H; obtain ⟨Ao12, co12, eo12⟩ := Kd.R_slice HO_3.out; subst eo12
    go_wp2_with (first | ((with_reducible refine gate_callee (f := 81) rfl ?_); refine gL (some 20) Try.func81 #[.slice Ao12 x3_1.length co12] ?_; (with_reducible refine (slices_Compact_string_string.calls (fun k_ => some k_ = (.slice Ao12 x3_1.length co12 : Value).ownBlock) (.slice Ao12 x3_1.length co12) x3_1 t291 w _ ?side1 ?side2 A11.out).mono ?_); (case side1 => exact bL HB.out); (case side2 => exact Kd.R_tight rfl HO_3.out); rintro e w13 ⟨v292, rfl, ho0, hb, hkp⟩; refine ⟨_, rfl, ?_⟩; have _ := mK (Kd.R_mono (ok' := fun k_ => True) ho0 (fun k_ hk_ => trivial)); have _ := mK (hb); clear HB HO_3; rename_i HO293 HB; (try clear hb); (try clear hkp); (try clear ho0)))
    go_ret
    exact ⟨_, sE, rK HO293.out, bL HB.out⟩
/-! ### impl_GoodFilter: function 82 -/
def impl_GoodFilter.f (a0_0 : Int) (l0_1 : List Int) : Option (Bool) := (impl_within.f a0_0 1 8).bind fun t295 => (if t295 = true then ((impl_within.f (l0_1.length : Int) 1 200).bind fun t296 => (some t296)) else (some false))
set_option maxHeartbeats 8000000 in
set_option maxRecDepth 100000 in
theorem impl_GoodFilter.calls (a0_0 : Int) (A0_1 : Option Addr) (c0_1 : Nat) (l0_1 : List Int) (r : Bool) (w : World) (hr0_1 : Kd.C (Kd.int .u8) w A0_1 l0_1.length l0_1) (hc0_1 : l0_1.length ≤ c0_1) (h : impl_GoodFilter.f a0_0 l0_1 = some r) :
  Calls Try.prog 82 #[.agg #[.int .i64 a0_0, .slice A0_1 l0_1.length c0_1]] w fun e w' => e = .returned (.bool r) ∧ Below w.heap.size w w' := by
 have hu64 := Try.underlying64
 have HR0_1 := Aside0.mk hr0_1
 have HC0_1 := Aside0.mk hc0_1
 clear hr0_1 hc0_1
 have HB := mK (Below.refl w.heap.size w)
 have H : ((impl_within.f a0_0 1 8).bind fun t295 => (if t295 = true then ((impl_within.f (l0_1.length : Int) 1 200).bind fun t296 => (some t296)) else (some false))) = some r := h
 clear h
 replace H := Option.bind_eq_some_iff.mp H
 obtain ⟨t295, A20, H⟩ := H
 (try dsimp only at H)
 have A2 := Aside0.mk A20
 clear A20
 by_cases c3 : t295 = true
 ·subst c3
  have H1 : ((impl_within.f (l0_1.length : Int) 1 200).bind fun t296 => (some t296)) = some r := by rw [if_pos rfl] at H; exact H
  clear H; have H := H1; clear H1; replace H := Option.bind_eq_some_iff.mp H; obtain ⟨t296, A40, H⟩ := H; (try dsimp only at H); have A4 := Aside0.mk A40; clear A40; obtain rfl := Option.some.inj H
  go_enter Try.func82, Try.ntmps82
  go_wp2_with (first | ((with_reducible refine gate_dst (N := 1) rfl ?_); (try (refine gate_guard (by rfl) ?_; dsimp only)); refine box_event ?hg (N := 1) ?hd (cs := #[.int .i64 a0_0, .slice A0_1 l0_1.length c0_1]) (t := 64) ?hr ?_; (case hd => rfl); (case hg => rfl); (case hr => first | (go_simp; done) | (go_simp; rfl)); intro gb294 hg w5 hbox hb; have _ := mK (below_step (bL HB.out) hb); have _ := mK (hbox); have _ := mK (sL hg (bL HB.out)); have _ := mK (sL hg (bL HB.out)); clear HB; rename_i HB BK294 GW294 GE294; clear hb hbox hg; obtain ⟨hcz6_0, hcz6_1⟩ := c2 BK294.out; obtain ⟨hfz6_0, hfz6_1⟩ := f2 BK294.out) | ((with_reducible refine gate_callee (f := 25) rfl ?_); refine gL (some 5) Try.func25 #[.int .i64 a0_0, .int .i64 1, .int .i64 8] ?_; (with_reducible refine (impl_within.calls a0_0 1 8 true _ A2.out).mono ?_); rintro e w' ⟨rfl, ⟨nd, rfl⟩⟩; refine ⟨_, rfl, ?_⟩) | (go_at_call 25; (with_reducible refine (impl_within.calls (l0_1.length : Int) 1 200 t296 _ A4.out).mono ?_); rintro e w' ⟨rfl, ⟨nd, rfl⟩⟩))
  go_ret
  exact ⟨sE, bL HB.out⟩
 ·replace c3 := Bool.eq_false_iff.mpr c3
  subst c3
  have H1 : (some false) = some r := by rw [if_neg (show ¬ (false = true) by decide)] at H; exact H
  clear H; have H := H1; clear H1; obtain rfl := Option.some.inj H
  go_enter Try.func82, Try.ntmps82
  go_wp2_with (first | ((with_reducible refine gate_dst (N := 1) rfl ?_); (try (refine gate_guard (by rfl) ?_; dsimp only)); refine box_event ?hg (N := 1) ?hd (cs := #[.int .i64 a0_0, .slice A0_1 l0_1.length c0_1]) (t := 64) ?hr ?_; (case hd => rfl); (case hg => rfl); (case hr => first | (go_simp; done) | (go_simp; rfl)); intro gb294 hg w7 hbox hb; have _ := mK (below_step (bL HB.out) hb); have _ := mK (hbox); have _ := mK (sL hg (bL HB.out)); have _ := mK (sL hg (bL HB.out)); clear HB; rename_i HB BK294 GW294 GE294; clear hb hbox hg; obtain ⟨hcz8_0, hcz8_1⟩ := c2 BK294.out; obtain ⟨hfz8_0, hfz8_1⟩ := f2 BK294.out) | ((with_reducible refine gate_callee (f := 25) rfl ?_); refine gL (some 5) Try.func25 #[.int .i64 a0_0, .int .i64 1, .int .i64 8] ?_; (with_reducible refine (impl_within.calls a0_0 1 8 false _ A2.out).mono ?_); rintro e w' ⟨rfl, ⟨nd, rfl⟩⟩; refine ⟨_, rfl, ?_⟩))
  go_ret
  exact ⟨sE, bL HB.out⟩
/-! ### impl_FilterBytes: function 53 -/
def impl_FilterBytes.f (a0_0 : Int) (l0_1 : List Int) : Option (List Int × Bool) := (impl_GoodFilter.f a0_0 l0_1).bind fun t298 => (if t298 = true then ((some (([(a0_0) % 256] : List Int) : List Int)).bind fun y299 => (if y299.length + l0_1.length < 140737488355328 then (some ((y299 ++ l0_1), true)) else (none))) else (some (([] : List Int), false)))
set_option maxHeartbeats 8000000 in
set_option maxRecDepth 100000 in
theorem impl_FilterBytes.calls (a0_0 : Int) (A0_1 : Option Addr) (c0_1 : Nat) (l0_1 : List Int) (r1 : List Int) (r2 : Bool) (w : World) (hr0_1 : Kd.C (Kd.int .u8) w A0_1 l0_1.length l0_1) (hc0_1 : l0_1.length ≤ c0_1) (h : impl_FilterBytes.f a0_0 l0_1 = some (r1, r2)) :
  Calls Try.prog 53 #[.agg #[.int .i64 a0_0, .slice A0_1 l0_1.length c0_1]] w fun e w' => ∃ v0_ : Value, e = .returned (.tuple #[v0_, .bool r2]) ∧ Kd.R (Kd.int .u8) 5 w' w.heap.size (fun _ => True) v0_ r1 ∧ Below w.heap.size w w' := by
 have hu64 := Try.underlying64
 have HR0_1 := Aside0.mk hr0_1
 have HC0_1 := Aside0.mk hc0_1
 clear hr0_1 hc0_1
 have HB := mK (Below.refl w.heap.size w)
 have H : ((impl_GoodFilter.f a0_0 l0_1).bind fun t298 => (if t298 = true then ((some (([(a0_0) % 256] : List Int) : List Int)).bind fun y299 => (if y299.length + l0_1.length < 140737488355328 then (some ((y299 ++ l0_1), true)) else (none))) else (some (([] : List Int), false)))) = some (r1, r2) := h
 clear h
 replace H := Option.bind_eq_some_iff.mp H
 obtain ⟨t298, A20, H⟩ := H
 replace H : (if t298 = true then ((some (([(a0_0) % 256] : List Int) : List Int)).bind fun y299 => (if y299.length + l0_1.length < 140737488355328 then (some ((y299 ++ l0_1), true)) else (none))) else (some (([] : List Int), false))) = some (r1, r2) := H
 have A2 := Aside0.mk A20
 clear A20
 by_cases c3 : t298 = true
 ·subst c3
  have H1 : ((some (([(a0_0) % 256] : List Int) : List Int)).bind fun y299 => (if y299.length + l0_1.length < 140737488355328 then (some ((y299 ++ l0_1), true)) else (none))) = some (r1, r2) := by rw [if_pos rfl] at H; exact H
  clear H; have H := H1; clear H1; obtain ⟨y299, hy299⟩ : ∃ y_ : List Int, y_ = (([(a0_0) % 256] : List Int)) := ⟨_, rfl⟩
  replace H : (if y299.length + l0_1.length < 140737488355328 then (some ((y299 ++ l0_1), true)) else (none)) = some (r1, r2) := by first | (rw [hy299]; with_reducible exact H) | (have H2_ := (Option.bind_some _ _).symm.trans H; rw [hy299]; with_reducible exact H2_) | (have H2_ := (Option.bind_some _ _).symm.trans H; with_reducible exact H2_) | with_reducible exact H | (rw [hy299]; exact H) | exact H
  have Ny299 := Aside0.mk hy299; clear hy299
  by_cases c4 : y299.length + l0_1.length < 140737488355328
  ·rw [if_pos c4] at H
   have LMc4 := Aside0.mk c4; clear c4; obtain ⟨y302, hy302⟩ : ∃ y_ : List Int, y_ = (y299 ++ l0_1) := ⟨_, rfl⟩
   replace H : (some (y302, true)) = some (r1, r2) := by first | (rw [hy302]; with_reducible exact H) | (have H2_ := (Option.bind_some _ _).symm.trans H; rw [hy302]; with_reducible exact H2_) | (have H2_ := (Option.bind_some _ _).symm.trans H; with_reducible exact H2_) | with_reducible exact H | (rw [hy302]; exact H) | exact H
   have Ny302 := Aside0.mk hy302; clear hy302; simp only [Option.some.injEq, Prod.mk.injEq] at H; obtain ⟨rfl, rfl⟩ := H
   go_enter Try.func53, Try.ntmps53
   go_wp2_with (first | ((with_reducible refine gate_dst (N := 1) rfl ?_); refine box_event ?hg (N := 1) ?hd (cs := #[.int .i64 a0_0, .slice A0_1 l0_1.length c0_1]) (t := 64) ?hr ?_; (case hd => rfl); (case hg => rfl); (case hr => first | (go_simp; done) | (go_simp; rfl)); intro gb297 hg w5 hbox hb; have _ := mK (below_step (bL HB.out) hb); have _ := mK (hbox); have _ := mK (sL hg (bL HB.out)); have _ := mK (sL hg (bL HB.out)); clear HB; rename_i HB BK297 GW297 GE297; clear hb hbox hg; obtain ⟨hcz6_0, hcz6_1⟩ := c2 BK297.out; obtain ⟨hfz6_0, hfz6_1⟩ := f2 BK297.out) | ((with_reducible refine gate_callee (f := 82) rfl ?_); refine gL (some 5) Try.func82 #[.agg #[.int .i64 a0_0, .slice A0_1 l0_1.length c0_1]] ?_; (with_reducible refine (impl_GoodFilter.calls a0_0 _ _ l0_1 true _ ?side1 ?side2 A2.out).mono ?_); (case side1 => exact cK (Kd.C_below HR0_1.out HB.out)); (case side2 => exact HC0_1.out); rintro e w7 ⟨rfl, hb⟩; refine ⟨_, rfl, ?_⟩; have _ := mK (blk_below (bK BK297.out) hb); have _ := mK (below_step (bL HB.out) hb); clear BK297 HB; rename_i BK297 HB; (try clear hb); (try clear hb2); (try clear hk); (try clear hi); obtain ⟨hcz8_0, hcz8_1⟩ := c2 BK297.out; obtain ⟨hfz8_0, hfz8_1⟩ := f2 BK297.out) | ((with_reducible refine gate_dst (N := 10) rfl ?_); refine Kd.R_lit (Kd.int .u8) _ 5 ?hg (N := 10) ?hd (xs := ([(a0_0) % 256] : List Int)) (inner := [.int .u8 ((a0_0) % 256)]) (ok := fun _ => True) (okp := fun _ => True) ?hr ?hp (fun _ hk => hk) trivial (Below.refl _ _) (Nat.le_refl _) (by simp) ?_; (case hd => rfl); (case hg => rfl); (case hr => first | (go_simp; done) | (go_simp; rfl)); (case hp => exact (Reps.one (show Kd.M (Kd.int .u8) _ _ _ ((a0_0) % 256) [.int .u8 ((a0_0) % 256)] from rfl) (Reps.none _ _))); intro v300 w9 ho10 hb hg_ hnew_; clear hg_ hnew_; (first | rw [← Ny299.out] at ho10 | (simp only [Int.reduceToNat] at ho10; rw [← Ny299.out] at ho10)); have _ := mK (Kd.R_lower ho10 (below_size (bL HB.out))); have _ := mK (blk_below (bK BK297.out) hb); have _ := mK (below_step (bL HB.out) hb); clear BK297 HB; rename_i HO301 BK297 HB; clear hb ho10; obtain ⟨_, _⟩ := c2 BK297.out; obtain ⟨_, _⟩ := f2 BK297.out) | ((with_reducible refine gate_builtin (b := .append) (xs := #[.tmp 10, .tmp 12]) rfl ?_); at_builtin; refine Kd.R_append_rows (Kd.int .u8) (w0 := w) w.heap.size rfl (.tmp 10) (.tmp 12) 24 5 (.int .u8 0) 1 rfl Try.underlying24 info5 rfl (by decide) (by omega) v300 y299 l0_1 _ _ _ (fun _ => True) (fun _ => False) rfl rfl ?aO ?aR (fun _ _ h => h) (fun _ h => h.elim) ?aF ?aB ?aS ?aL ?_; (case aR => repeat (first | exact (Kd.C_below HR0_1.out HB.out) | (with_reducible refine Kd.C_alloc ?_ _) | (with_reducible refine Kd.C_drewN ?_ _) | (with_reducible refine Kd.C_drew ?_))); (case aB => exact (bL HB.out)); (case aF => exact (fun _ _ => trivial)); (case aO => exact (rK HO301.out)); (case aS => exact (below_size (bL HB.out))); (case aL => have := LMc4.out; omega); intro v303 w12 ho hb hg hat; rw [← Ny302.out] at ho; have _ := mK (blk_grown (bK BK297.out) hg (Kd.R_ne HO301.out BK297.out (by decide))); have _ := mK (hb); have _ := mK (ho); clear BK297 HB HO301; rename_i BK297 HB HO304; clear ho hb hg hat))
   go_ret2
   exact ⟨_, sE, rK HO304.out, bL HB.out⟩
  ·rw [if_neg c4] at H; exact absurd H (by simp)
 ·replace c3 := Bool.eq_false_iff.mpr c3
  subst c3
  have H1 : (some (([] : List Int), false)) = some (r1, r2) := by rw [if_neg (show ¬ (false = true) by decide)] at H; exact H
  clear H; have H := H1; clear H1; simp only [Option.some.injEq, Prod.mk.injEq] at H; obtain ⟨rfl, rfl⟩ := H
  go_enter Try.func53, Try.ntmps53
  go_wp2_with (first | ((with_reducible refine gate_dst (N := 1) rfl ?_); refine box_event ?hg (N := 1) ?hd (cs := #[.int .i64 a0_0, .slice A0_1 l0_1.length c0_1]) (t := 64) ?hr ?_; (case hd => rfl); (case hg => rfl); (case hr => first | (go_simp; done) | (go_simp; rfl)); intro gb297 hg w13 hbox hb; have _ := mK (below_step (bL HB.out) hb); have _ := mK (hbox); have _ := mK (sL hg (bL HB.out)); have _ := mK (sL hg (bL HB.out)); clear HB; rename_i HB BK297 GW297 GE297; clear hb hbox hg; obtain ⟨_, _⟩ := c2 BK297.out; obtain ⟨_, _⟩ := f2 BK297.out) | ((with_reducible refine gate_callee (f := 82) rfl ?_); refine gL (some 5) Try.func82 #[.agg #[.int .i64 a0_0, .slice A0_1 l0_1.length c0_1]] ?_; (with_reducible refine (impl_GoodFilter.calls a0_0 _ _ l0_1 false _ ?side1 ?side2 A2.out).mono ?_); (case side1 => exact cK (Kd.C_below HR0_1.out HB.out)); (case side2 => exact HC0_1.out); rintro e w15 ⟨rfl, hb⟩; refine ⟨_, rfl, ?_⟩; have _ := mK (blk_below (bK BK297.out) hb); have _ := mK (below_step (bL HB.out) hb); clear BK297 HB; rename_i BK297 HB; (try clear hb); (try clear hb2); (try clear hk); (try clear hi)))
  go_ret2
  exact ⟨_, sE, by first | exact Kd.R_nil _ _ _ _ _ | exact Kd.N_nil _ _ _ _ _ | exact Kd.V_nil _ _ _ _ _ | exact Kd.Q_nil _ _ _ _ _ | exact Kd.S_nil _ _ _ _ _, bL HB.out⟩
end Go.Proofs.Ytllmlnagihlokaa.PFnExactBoundsOf
