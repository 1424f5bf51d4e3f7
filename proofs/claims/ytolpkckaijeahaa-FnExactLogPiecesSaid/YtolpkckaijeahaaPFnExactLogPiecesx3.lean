-- Written for this claim by a program of this session: a scratch copy of the kit's print with patches of this session.
import Derived.Test.YtolpkckaijeahaaPFnExactLogPiecesx0
import Derived.Test.YtolpkckaijeahaaPFnExactLogPiecesx2
namespace Go.Proofs.Ytolpkckaijeahaa.PFnExactLogPieces
open Go.RowKit Go.Proofs.YtolpkckaijeahaaW.PrintWords Go.Proofs.YtolpkckaijeahaaW.PrintLast Go.Proofs.YtolpkckaijeahaaW.PrintMore
attribute [local go_sem] max2_int min2_int max_two min_two max_three min_three max_four min_four   -- for this text's walks alone
set_option linter.unusedVariables false
set_option linter.unusedSimpArgs false

/-! ### impl_logPieces: function 85 -/
mutual
def impl_logPieces.l0 : Nat → Int → List Int → List Int → Bool → Bool → Option (List Int)
  | 0, _, _, _, _, _ => none
  | k + 1, x0, x1, x5, x6, x7 => if x6 = true then (some x5) else ((impl_padding.f (wrap64 (x0 + (x5.length : Int)))).bind fun t167 => (if 0 ≤ t167 then (if x5.length + (t167 : Int).toNat < 140737488355328 then ((some (x5 ++ List.replicate (t167 : Int).toNat 0 : List Int)).bind fun y168 => (if x7 = true then (impl_logPieces.j1 k x0 x1 y168 ((mn (wrap64 ((wrap64 (64 - (Int.tmod (wrap64 (x0 + (y168.length : Int))) 64))) - 6)) (x1.length : Int)) == (x1.length : Int)) x7 (mn (wrap64 ((wrap64 (64 - (Int.tmod (wrap64 (x0 + (y168.length : Int))) 64))) - 6)) (x1.length : Int)) 3 false) else (impl_logPieces.j1 k x0 x1 y168 ((mn (wrap64 ((wrap64 (64 - (Int.tmod (wrap64 (x0 + (y168.length : Int))) 64))) - 6)) (x1.length : Int)) == (x1.length : Int)) x7 (mn (wrap64 ((wrap64 (64 - (Int.tmod (wrap64 (x0 + (y168.length : Int))) 64))) - 6)) (x1.length : Int)) 3 ((mn (wrap64 ((wrap64 (64 - (Int.tmod (wrap64 (x0 + (y168.length : Int))) 64))) - 6)) (x1.length : Int)) == (x1.length : Int))))) else (none)) else (none)))
def impl_logPieces.j1 : Nat → Int → List Int → List Int → Bool → Bool → Int → Int → Bool → Option (List Int)
  | 0, _, _, _, _, _, _, _, _ => none
  | k + 1, x0, x1, x5, x6, x7, x9, x10, x38 => if x38 = true then (if 0 ≤ x9 then (if x9 ≤ (x1.length : Int) then ((impl_check.f k 1 (x1.take (x9 : Int).toNat)).bind fun t176 => (if x5.length + t176.length < 140737488355328 then ((some (x5 ++ t176 : List Int)).bind fun y179 => ((some (([(x9) % 256, 1] : List Int) : List Int)).bind fun y182 => (if y179.length + y182.length < 140737488355328 then ((some (y179 ++ y182 : List Int)).bind fun y185 => ((some (x1.take (x9 : Int).toNat : List Int)).bind fun y188 => (if y185.length + y188.length < 140737488355328 then (impl_logPieces.l0 k x0 (x1.drop (x9 : Int).toNat) (y185 ++ y188) x6 true) else (none)))) else (none)))) else (none))) else (none)) else (none)) else (if x7 = true then (if x6 = true then (if 0 ≤ x9 then (if x9 ≤ (x1.length : Int) then ((impl_check.f k 4 (x1.take (x9 : Int).toNat)).bind fun t206 => (if x5.length + t206.length < 140737488355328 then ((some (x5 ++ t206 : List Int)).bind fun y209 => ((some (([(x9) % 256, 4] : List Int) : List Int)).bind fun y212 => (if y209.length + y212.length < 140737488355328 then ((some (y209 ++ y212 : List Int)).bind fun y215 => ((some (x1.take (x9 : Int).toNat : List Int)).bind fun y218 => (if y215.length + y218.length < 140737488355328 then (impl_logPieces.l0 k x0 (x1.drop (x9 : Int).toNat) (y215 ++ y218) x6 true) else (none)))) else (none)))) else (none))) else (none)) else (none)) else (if 0 ≤ x9 then (if x9 ≤ (x1.length : Int) then ((impl_check.f k x10 (x1.take (x9 : Int).toNat)).bind fun t236 => (if x5.length + t236.length < 140737488355328 then ((some (x5 ++ t236 : List Int)).bind fun y239 => ((some (([(x9) % 256, x10] : List Int) : List Int)).bind fun y242 => (if y239.length + y242.length < 140737488355328 then ((some (y239 ++ y242 : List Int)).bind fun y245 => ((some (x1.take (x9 : Int).toNat : List Int)).bind fun y248 => (if y245.length + y248.length < 140737488355328 then (impl_logPieces.l0 k x0 (x1.drop (x9 : Int).toNat) (y245 ++ y248) x6 true) else (none)))) else (none)))) else (none))) else (none)) else (none))) else (if 0 ≤ x9 then (if x9 ≤ (x1.length : Int) then ((impl_check.f k 2 (x1.take (x9 : Int).toNat)).bind fun t266 => (if x5.length + t266.length < 140737488355328 then ((some (x5 ++ t266 : List Int)).bind fun y269 => ((some (([(x9) % 256, 2] : List Int) : List Int)).bind fun y272 => (if y269.length + y272.length < 140737488355328 then ((some (y269 ++ y272 : List Int)).bind fun y275 => ((some (x1.take (x9 : Int).toNat : List Int)).bind fun y278 => (if y275.length + y278.length < 140737488355328 then (impl_logPieces.l0 k x0 (x1.drop (x9 : Int).toNat) (y275 ++ y278) x6 true) else (none)))) else (none)))) else (none))) else (none)) else (none)))
end
def impl_logPieces.f (k : Nat) (a0 : Int) (l1 : List Int) : Option (List Int) := (impl_padding.f a0).bind fun t163 => (if 0 ≤ t163 then (if (t163 : Int).toNat ≤ 281474976710656 then (impl_logPieces.l0 k a0 l1 (List.replicate (t163 : Int).toNat 0) false false) else (none)) else (none))
theorem impl_logPieces.mono_l : ∀ k, (∀ y0 y1 y2 y3 y4, LeO (impl_logPieces.l0 k y0 y1 y2 y3 y4) (impl_logPieces.l0 (k + 1) y0 y1 y2 y3 y4)) ∧ (∀ y0 y1 y2 y3 y4 y5 y6 y7, LeO (impl_logPieces.j1 k y0 y1 y2 y3 y4 y5 y6 y7) (impl_logPieces.j1 (k + 1) y0 y1 y2 y3 y4 y5 y6 y7))
  | 0 => ⟨fun _ _ _ _ _ r h => by simp [impl_logPieces.l0] at h, fun _ _ _ _ _ _ _ _ r h => by simp [impl_logPieces.j1] at h⟩
  | k + 1 => by
    obtain ⟨ih0, ih1⟩ := impl_logPieces.mono_l k
    refine ⟨?_, ?_⟩
    · intro y0 y1 y2 y3 y4
      unfold impl_logPieces.l0
      repeat' first
      | (with_reducible exact ih0 _ _ _ _ _)
      | (with_reducible exact ih1 _ _ _ _ _ _ _ _)
      | (with_reducible exact impl_check.mono _ _ _)
      | (with_reducible exact LeO.refl _)
      | (with_reducible exact LeO.none _)
      | (with_reducible refine LeO.ite ?_ ?_)
      | (with_reducible refine LeO.bind ?_ (fun _ => ?_))
      | exact ih0 _ _ _ _ _
      | exact ih1 _ _ _ _ _ _ _ _
      | exact impl_check.mono _ _ _
      | exact LeO.none _
      | refine LeO.ite ?_ ?_
      | refine LeO.bind ?_ (fun _ => ?_)
    · intro y0 y1 y2 y3 y4 y5 y6 y7
      unfold impl_logPieces.j1
      repeat' first
      | (with_reducible exact ih0 _ _ _ _ _)
      | (with_reducible exact ih1 _ _ _ _ _ _ _ _)
      | (with_reducible exact impl_check.mono _ _ _)
      | (with_reducible exact LeO.refl _)
      | (with_reducible exact LeO.none _)
      | (with_reducible refine LeO.ite ?_ ?_)
      | (with_reducible refine LeO.bind ?_ (fun _ => ?_))
      | exact ih0 _ _ _ _ _
      | exact ih1 _ _ _ _ _ _ _ _
      | exact impl_check.mono _ _ _
      | exact LeO.none _
      | refine LeO.ite ?_ ?_
      | refine LeO.bind ?_ (fun _ => ?_)
theorem impl_logPieces.mono : ∀ a0 a1 k, LeO (impl_logPieces.f k a0 a1) (impl_logPieces.f (k + 1) a0 a1) := by
  intro a0 a1 k
  obtain ⟨ih0, ih1⟩ := impl_logPieces.mono_l k
  unfold impl_logPieces.f
  repeat' first
      | (with_reducible exact ih0 _ _ _ _ _)
      | (with_reducible exact ih1 _ _ _ _ _ _ _ _)
      | (with_reducible exact impl_check.mono _ _ _)
      | (with_reducible exact LeO.refl _)
      | (with_reducible exact LeO.none _)
      | (with_reducible refine LeO.ite ?_ ?_)
      | (with_reducible refine LeO.bind ?_ (fun _ => ?_))
      | exact ih0 _ _ _ _ _
      | exact ih1 _ _ _ _ _ _ _ _
      | exact impl_check.mono _ _ _
      | exact LeO.none _
      | refine LeO.ite ?_ ?_
      | refine LeO.bind ?_ (fun _ => ?_)
set_option maxHeartbeats 8000000 in
set_option maxRecDepth 100000 in
theorem impl_logPieces.calls (k : Nat) (a0 : Int) (P1_ : Nat → Prop) (A1 : Option Addr) (c1 : Nat) (l1 : List Int) (r : List Int) (w : World) (hs1 : Kd.V (Kd.int .u8) 5 w w.heap.size (fun k_ => P1_ k_) (.slice A1 l1.length c1) l1) (h : impl_logPieces.f k a0 l1 = some r) :
    Calls Try.prog 85 #[.int .i64 a0, .slice A1 l1.length c1] w fun e w' => ∃ v0_ : Value, e = .returned (v0_) ∧ Kd.R (Kd.int .u8) 5 w' w.heap.size (fun k_ => (w.heap.size ≤ k_)) v0_ r ∧ Below w.heap.size w w' := by
  have HO1 := Aside0.mk (show Kd.V (Kd.int .u8) 5 w w.heap.size (fun k_ => (P1_ k_ ∨ w.heap.size ≤ k_)) (.slice A1 l1.length c1) l1 from Kd.V_mono hs1 (fun k_ hk => .inl hk))
  have HB := Aside0.mk (Below.refl w.heap.size w)
  have H : ((impl_padding.f a0).bind fun t163 => (if 0 ≤ t163 then (if (t163 : Int).toNat ≤ 281474976710656 then (impl_logPieces.l0 k a0 l1 (List.replicate (t163 : Int).toNat 0) false false) else (none)) else (none))) = some r := h
  clear h
  replace H := Option.bind_eq_some_iff.mp H
  obtain ⟨t163, A30, H⟩ := H
  replace H : (if 0 ≤ t163 then (if (t163 : Int).toNat ≤ 281474976710656 then (impl_logPieces.l0 k a0 l1 (List.replicate (t163 : Int).toNat 0) false false) else (none)) else (none)) = some r := H
  have A3 := Aside0.mk A30
  clear A30
  by_cases c4 : 0 ≤ t163
  · rw [if_pos c4] at H
    have c4b0 := eq_true c4
    have c4b1 : decide (0 ≤ t163) = true := decide_eq_true c4
    clear c4
    by_cases c5 : (t163 : Int).toNat ≤ 281474976710656
    · rw [if_pos c5] at H
      have c5b0 := eq_true c5
      have c5b1 : decide ((t163 : Int).toNat ≤ 281474976710656) = true := decide_eq_true c5
      clear c5
      obtain ⟨y164, hy164⟩ : ∃ y_ : List Int, y_ = (List.replicate (t163 : Int).toNat 0) := ⟨_, rfl⟩
      replace H : (impl_logPieces.l0 k a0 l1 y164 false false) = some r := by first | (rw [hy164]; with_reducible exact H) | (have H2_ := (Option.bind_some _ _).symm.trans H; rw [hy164]; with_reducible exact H2_) | (have H2_ := (Option.bind_some _ _).symm.trans H; with_reducible exact H2_) | with_reducible exact H | (rw [hy164]; exact H) | exact H
      have Ny164 := Aside0.mk hy164
      clear hy164
      have H' := Aside0.mk H
      clear H
      go_enter Try.func85, Try.ntmps85
      go_wp2_with (first | ((with_reducible refine gate_callee (f := 106) rfl ?_); refine goesL_ (some 12) rfl rfl Try.func106 (by kernel_rfl) rfl #[.int .i64 a0] rfl (by (try simp only [List.map_toArray, List.map_cons, List.map_nil]); first | done | rfl | (simp only [List.length_drop, List.length_take]; rfl)) ?_; (with_reducible refine (impl_padding.calls a0 t163 _ A3.out).mono ?_); rintro e w' ⟨rfl, ⟨nd, rfl⟩⟩; refine ⟨_, rfl, ?_⟩) | ((with_reducible refine gate_dst (N := 13) rfl ?_); refine Kd.R_make (Kd.int .u8) _ 5 rfl (N := 13) rfl 22 _ _ rfl t163 rfl rfl Try.underlying22 (.int .u8 0) 1 info5 rfl (by decide) (by omega) 0 (ok := fun _ => True) (okp := fun _ => True) rfl (fun _ hk => hk) trivial (of_decide_eq_true (by first | (with_reducible assumption) | assumption)) (Nat.le_trans (Nat.mul_le_mul_right _ (of_decide_eq_true (by first | (with_reducible assumption) | assumption) : t163.toNat ≤ 281474976710656)) (by omega)) (Below.refl _ _) (Nat.le_refl _) ?_; intro v165 w6 ho7 hb hg_ hnew_; clear hg_ hnew_; (first | rw [← Ny164.out] at ho7 | (simp only [Int.reduceToNat] at ho7; rw [← Ny164.out] at ho7)); have n0_ := Aside0.mk (Kd.V_elder' (by (with_reducible repeat (first | apply Kd.V_alloc | apply Kd.V_drewN | apply Kd.V_drew)); exact HO1.out) (Kd.R_base ho7) hb); have n1_ := Aside0.mk (Kd.R_lower (Kd.R_newM (M := fun k_ => (w.heap.size ≤ k_)) ho7 (below_size (by repeat (first | (with_reducible first | exact HB.out | apply below_alloc | apply pw_below_drewN | apply below_drew1) | exact HB.out))) (fun k_ h_ => h_)) (below_size (by repeat (first | (with_reducible first | exact HB.out | apply below_alloc | apply pw_below_drewN | apply below_drew1) | exact HB.out)))); have n2_ := Aside0.mk (below_step (by repeat (first | (with_reducible first | exact HB.out | apply below_alloc | apply pw_below_drewN | apply below_drew1) | exact HB.out)) hb); clear HO1; clear HB; have HO1 := n0_; have HO166 := n1_; have HB := n2_; clear n0_ n1_ n2_; clear hb ho7))
      go_loopg [1, 5, 6, 7] k (fun kq v1 v5 v6 v7 w' => ∃ (x1_1 : List Int) (x5_1 : List Int) (x6_1 : Bool) (x7_1 : Bool), v6 = .bool x6_1 ∧ v7 = .bool x7_1 ∧ Aside0 (impl_logPieces.l0 kq a0 x1_1 x5_1 x6_1 x7_1 = some r) ∧ Aside0 (kq ≤ k) ∧ Aside0 (Kd.V (Kd.int .u8) 5 w' w.heap.size (fun k_ => (P1_ k_ ∨ w.heap.size ≤ k_) ∧ some k_ ≠ (v5 : Value).ownBlock) v1 x1_1) ∧ Aside0 (Kd.R (Kd.int .u8) 5 w' w.heap.size (fun k_ => (w.heap.size ≤ k_)) v5 x5_1) ∧ Aside0 (Below w.heap.size w w'))
      case atStart => exact ⟨(l1), (y164), (false), (false), (by first | rfl | (simp; done) | (simp [*]; done)), (by first | rfl | (simp; done) | (simp [*]; done)), H', ⟨Nat.le_refl _⟩, ⟨by (with_reducible repeat (first | apply Kd.V_alloc | apply Kd.V_drewN | apply Kd.V_drew)); exact HO1.out⟩, ⟨by (with_reducible repeat (first | apply Kd.R_alloc | apply Kd.R_drewN | apply Kd.R_drew)); exact Kd.R_mono HO166.out (fun _ hk => hk.1)⟩, ⟨by repeat (first | (with_reducible first | exact HB.out | apply below_alloc | apply pw_below_drewN | apply below_drew1) | exact HB.out)⟩⟩
      case round =>
        clear H'
        try clear c1
        try clear p2
        try clear c4
        try clear c4b0
        try clear c4b1
        try clear c5
        try clear c5b0
        try clear c5b1
        obtain ⟨x1_1, x5_1, x6_1, x7_1, rfl, rfl, HA, HK1, HO_1, HO_5, HB⟩ := hrel
        cases gk with
        | zero => exact absurd HA.out (by simp [impl_logPieces.l0])
        | succ k1 =>
          have H := HA.out
          clear HA
          simp only [impl_logPieces.l0] at H
          by_cases c8 : x6_1 = true
          · subst c8
            have H1 : (some x5_1) = some r := by rw [if_pos rfl] at H; exact H
            clear H
            have H := H1
            clear H1
            obtain rfl := Option.some.inj H
            go_wp2
            go_ret
            exact ⟨_, by first | rfl | (simp [errW_none, errW_some] <;> rfl) | (simp [*, errW_none, errW_some] <;> rfl), by (with_reducible repeat (first | apply Kd.R_alloc | apply Kd.R_drewN | apply Kd.R_drew)); exact HO_5.out, by repeat (first | (with_reducible first | exact HB.out | apply below_alloc | apply pw_below_drewN | apply below_drew1) | exact HB.out)⟩
          · replace c8 := Bool.eq_false_iff.mpr c8
            subst c8
            have H1 : ((impl_padding.f (wrap64 (a0 + (x5_1.length : Int)))).bind fun t167 => (if 0 ≤ t167 then (if x5_1.length + (t167 : Int).toNat < 140737488355328 then ((some (x5_1 ++ List.replicate (t167 : Int).toNat 0 : List Int)).bind fun y168 => (if x7_1 = true then (impl_logPieces.j1 k1 a0 x1_1 y168 ((mn (wrap64 ((wrap64 (64 - (Int.tmod (wrap64 (a0 + (y168.length : Int))) 64))) - 6)) (x1_1.length : Int)) == (x1_1.length : Int)) x7_1 (mn (wrap64 ((wrap64 (64 - (Int.tmod (wrap64 (a0 + (y168.length : Int))) 64))) - 6)) (x1_1.length : Int)) 3 false) else (impl_logPieces.j1 k1 a0 x1_1 y168 ((mn (wrap64 ((wrap64 (64 - (Int.tmod (wrap64 (a0 + (y168.length : Int))) 64))) - 6)) (x1_1.length : Int)) == (x1_1.length : Int)) x7_1 (mn (wrap64 ((wrap64 (64 - (Int.tmod (wrap64 (a0 + (y168.length : Int))) 64))) - 6)) (x1_1.length : Int)) 3 ((mn (wrap64 ((wrap64 (64 - (Int.tmod (wrap64 (a0 + (y168.length : Int))) 64))) - 6)) (x1_1.length : Int)) == (x1_1.length : Int))))) else (none)) else (none))) = some r := by rw [if_neg (show ¬ (false = true) by decide)] at H; exact H
            clear H
            have H := H1
            clear H1
            replace H := Option.bind_eq_some_iff.mp H
            obtain ⟨t167, A90, H⟩ := H
            replace H : (if 0 ≤ t167 then (if x5_1.length + (t167 : Int).toNat < 140737488355328 then ((some (x5_1 ++ List.replicate (t167 : Int).toNat 0 : List Int)).bind fun y168 => (if x7_1 = true then (impl_logPieces.j1 k1 a0 x1_1 y168 ((mn (wrap64 ((wrap64 (64 - (Int.tmod (wrap64 (a0 + (y168.length : Int))) 64))) - 6)) (x1_1.length : Int)) == (x1_1.length : Int)) x7_1 (mn (wrap64 ((wrap64 (64 - (Int.tmod (wrap64 (a0 + (y168.length : Int))) 64))) - 6)) (x1_1.length : Int)) 3 false) else (impl_logPieces.j1 k1 a0 x1_1 y168 ((mn (wrap64 ((wrap64 (64 - (Int.tmod (wrap64 (a0 + (y168.length : Int))) 64))) - 6)) (x1_1.length : Int)) == (x1_1.length : Int)) x7_1 (mn (wrap64 ((wrap64 (64 - (Int.tmod (wrap64 (a0 + (y168.length : Int))) 64))) - 6)) (x1_1.length : Int)) 3 ((mn (wrap64 ((wrap64 (64 - (Int.tmod (wrap64 (a0 + (y168.length : Int))) 64))) - 6)) (x1_1.length : Int)) == (x1_1.length : Int))))) else (none)) else (none)) = some r := H
            have A9 := Aside0.mk A90
            clear A90
            by_cases c10 : 0 ≤ t167
            · rw [if_pos c10] at H
              have c10b0 := eq_true c10
              have c10b1 : decide (0 ≤ t167) = true := decide_eq_true c10
              clear c10
              by_cases c11 : x5_1.length + (t167 : Int).toNat < 140737488355328
              · rw [if_pos c11] at H
                have LMc11 := Aside0.mk c11
                clear c11
                obtain ⟨y168, hy168⟩ : ∃ y_ : List Int, y_ = (x5_1 ++ List.replicate (t167 : Int).toNat 0) := ⟨_, rfl⟩
                replace H : (if x7_1 = true then (impl_logPieces.j1 k1 a0 x1_1 y168 ((mn (wrap64 ((wrap64 (64 - (Int.tmod (wrap64 (a0 + (y168.length : Int))) 64))) - 6)) (x1_1.length : Int)) == (x1_1.length : Int)) x7_1 (mn (wrap64 ((wrap64 (64 - (Int.tmod (wrap64 (a0 + (y168.length : Int))) 64))) - 6)) (x1_1.length : Int)) 3 false) else (impl_logPieces.j1 k1 a0 x1_1 y168 ((mn (wrap64 ((wrap64 (64 - (Int.tmod (wrap64 (a0 + (y168.length : Int))) 64))) - 6)) (x1_1.length : Int)) == (x1_1.length : Int)) x7_1 (mn (wrap64 ((wrap64 (64 - (Int.tmod (wrap64 (a0 + (y168.length : Int))) 64))) - 6)) (x1_1.length : Int)) 3 ((mn (wrap64 ((wrap64 (64 - (Int.tmod (wrap64 (a0 + (y168.length : Int))) 64))) - 6)) (x1_1.length : Int)) == (x1_1.length : Int)))) = some r := by first | (rw [hy168]; with_reducible exact H) | (have H2_ := (Option.bind_some _ _).symm.trans H; rw [hy168]; with_reducible exact H2_) | (have H2_ := (Option.bind_some _ _).symm.trans H; with_reducible exact H2_) | with_reducible exact H | (rw [hy168]; exact H) | exact H
                have Ny168 := Aside0.mk hy168
                clear hy168
                obtain ⟨ji12, hji12⟩ : ∃ j_ : Int, (mn (wrap64 ((wrap64 (64 - (Int.tmod (wrap64 (a0 + (y168.length : Int))) 64))) - 6)) (x1_1.length : Int)) = j_ := ⟨_, rfl⟩
                replace H : (if x7_1 = true then (impl_logPieces.j1 k1 a0 x1_1 y168 ((ji12) == (x1_1.length : Int)) x7_1 ji12 3 false) else (impl_logPieces.j1 k1 a0 x1_1 y168 ((ji12) == (x1_1.length : Int)) x7_1 ji12 3 ((ji12) == (x1_1.length : Int)))) = some r := by first | (rw [hji12] at H; exact H) | (simp only [hji12] at H ⊢; exact H)
                (try rw [hji12] at A9)
                have hji12_ : (if (x1_1.length : Int) < (wrap64 ((wrap64 (64 - (Int.tmod (wrap64 (a0 + (y168.length : Int))) 64))) - 6)) then (x1_1.length : Int) else (wrap64 ((wrap64 (64 - (Int.tmod (wrap64 (a0 + (y168.length : Int))) 64))) - 6))) = ji12 := hji12
                have HC13 := Aside0.mk H
                clear H
                obtain ⟨Ao14, co14, eo14⟩ := Kd.R_slice HO_5.out
                subst eo14
                go_upto_region 10 with (first | ((with_reducible refine gate_callee (f := 106) rfl ?_); refine goesL_ (some 21) rfl rfl Try.func106 (by kernel_rfl) rfl #[.int .i64 (wrap64 (a0 + (x5_1.length : Int)))] rfl (by (try simp only [List.map_toArray, List.map_cons, List.map_nil]); first | done | rfl | (simp only [List.length_drop, List.length_take]; rfl)) ?_; (with_reducible refine (impl_padding.calls (wrap64 (a0 + (x5_1.length : Int))) t167 _ A9.out).mono ?_); rintro e w' ⟨rfl, ⟨nd, rfl⟩⟩; refine ⟨_, rfl, ?_⟩) | (at_builtin; refine Kd.R_append_zeros (Kd.int .u8) (w0 := w) w.heap.size rfl (.tmp 16) (.tmp 21) 22 3 5 (.int .u8 0) 1 rfl Try.underlying22 Try.underlying3 info5 rfl (by decide) (by omega) (.slice Ao14 x5_1.length co14) x5_1 0 (t167 : Int) (fun k_ => (w.heap.size ≤ k_)) rfl rfl rfl ?aF ?aO (of_decide_eq_true (by first | (with_reducible assumption) | assumption)) ?aB ?aS ?aL ?_; (case aB => exact (by repeat (first | (with_reducible first | exact HB.out | apply below_alloc | apply pw_below_drewN | apply below_drew1) | exact HB.out))); (case aF => exact (fun k_ hk => (Nat.le_trans (below_size (by repeat (first | (with_reducible first | exact HB.out | apply below_alloc | apply pw_below_drewN | apply below_drew1) | exact HB.out))) hk))); (case aO => exact (by (with_reducible repeat (first | apply Kd.R_alloc | apply Kd.R_drewN | apply Kd.R_drew)); exact HO_5.out)); (case aS => exact (below_size (by repeat (first | (with_reducible first | exact HB.out | apply below_alloc | apply pw_below_drewN | apply below_drew1) | exact HB.out)))); (case aL => have := LMc11.out; omega); intro v169 w15 ho hb hg hat; rw [← Ny168.out] at ho; have n0_ := Aside0.mk (Kd.V_afterv (ok := (fun k_ => (P1_ k_ ∨ w.heap.size ≤ k_))) (by (with_reducible repeat (first | apply Kd.V_alloc | apply Kd.V_drewN | apply Kd.V_drew)); exact HO_1.out) hg hat); have n1_ := Aside0.mk (hb); have n2_ := Aside0.mk (ho); clear HO_1; clear HB; clear HO_5; have HO_1 := n0_; have HB := n1_; have HO170 := n2_; clear n0_ n1_ n2_; clear ho hb hg hat; obtain ⟨Ao16, co16, eo16⟩ := Kd.R_slice HO170.out; subst eo16; obtain ⟨Ao17, co17, eo17⟩ := Kd.V_slice HO_1.out; subst eo17))
                (try simp only [Act.put, List.setIfInBounds_toArray, List.set_cons_zero, List.set_cons_succ])
                go_cut [38] (fun v38 wc => ∃ (kq : Nat) (x38_12 : Bool), v38 = .bool x38_12 ∧ Aside0 (impl_logPieces.j1 kq a0 x1_1 y168 ((ji12) == (x1_1.length : Int)) x7_1 ji12 3 x38_12 = some r) ∧ Aside0 (kq ≤ k1) ∧ Aside0 (Kd.V (Kd.int .u8) 5 wc w.heap.size (fun k_ => (P1_ k_ ∨ w.heap.size ≤ k_) ∧ some k_ ≠ ((.slice Ao16 y168.length co16) : Value).ownBlock) (.slice Ao17 x1_1.length co17) x1_1) ∧ Aside0 (Kd.R (Kd.int .u8) 5 wc w.heap.size (fun k_ => (w.heap.size ≤ k_)) (.slice Ao16 y168.length co16) y168) ∧ Aside0 (Below w.heap.size w wc))
                case first =>
                  have H := HC13.out
                  clear HC13
                  by_cases c18 : x7_1 = true
                  · subst c18
                    have H1 : (impl_logPieces.j1 k1 a0 x1_1 y168 ((ji12) == (x1_1.length : Int)) true ji12 3 false) = some r := by rw [if_pos rfl] at H; exact H
                    clear H
                    have H := H1
                    clear H1
                    have H' := Aside0.mk H
                    clear H
                    go_wp2
                    go_meet
                    case rel => exact ⟨_, (false), (by first | rfl | (simp; done) | (simp [*]; done)), H', ⟨by have := HK1.out; first | omega | exact Nat.le_refl _⟩, ⟨by (with_reducible repeat (first | apply Kd.V_alloc | apply Kd.V_drewN | apply Kd.V_drew)); exact HO_1.out⟩, ⟨by (with_reducible repeat (first | apply Kd.R_alloc | apply Kd.R_drewN | apply Kd.R_drew)); exact HO170.out⟩, ⟨by repeat (first | (with_reducible first | exact HB.out | apply below_alloc | apply pw_below_drewN | apply below_drew1) | exact HB.out)⟩⟩
                  · replace c18 := Bool.eq_false_iff.mpr c18
                    subst c18
                    have H1 : (impl_logPieces.j1 k1 a0 x1_1 y168 ((ji12) == (x1_1.length : Int)) false ji12 3 ((ji12) == (x1_1.length : Int))) = some r := by rw [if_neg (show ¬ (false = true) by decide)] at H; exact H
                    clear H
                    have H := H1
                    clear H1
                    have H' := Aside0.mk H
                    clear H
                    go_wp2
                    go_meet
                    case rel => exact ⟨_, (((ji12) == (x1_1.length : Int))), (by first | rfl | (simp; done) | (first | exact congrArg Value.bool (by assumption) | exact congrArg Value.bool (Eq.symm (by assumption)) | (simp only [← hji12] <;> (first | rfl | (simp; done)))) | (simp [*]; done)), H', ⟨by have := HK1.out; first | omega | exact Nat.le_refl _⟩, ⟨by (with_reducible repeat (first | apply Kd.V_alloc | apply Kd.V_drewN | apply Kd.V_drew)); exact HO_1.out⟩, ⟨by (with_reducible repeat (first | apply Kd.R_alloc | apply Kd.R_drewN | apply Kd.R_drew)); exact HO170.out⟩, ⟨by repeat (first | (with_reducible first | exact HB.out | apply below_alloc | apply pw_below_drewN | apply below_drew1) | exact HB.out)⟩⟩
                case rest =>
                  clear HC13
                  try clear c1
                  try clear p2
                  try clear c4
                  try clear c4b0
                  try clear c4b1
                  try clear c5
                  try clear c5b0
                  try clear c5b1
                  try clear p6
                  try clear c8
                  try clear c10
                  try clear c10b0
                  try clear c10b1
                  try clear c11
                  try clear c18
                  try clear p2
                  obtain ⟨kq, x38_12, rfl, HA, HJ12, HO_1, HO_5, HB⟩ := hcut
                  cases kq with
                  | zero => exact absurd HA.out (by simp [impl_logPieces.j1])
                  | succ kj12 =>
                    have H := HA.out
                    clear HA
                    simp only [impl_logPieces.j1] at H
                    by_cases c19 : x38_12 = true
                    · subst c19
                      have H1 : (if 0 ≤ ji12 then (if ji12 ≤ (x1_1.length : Int) then ((impl_check.f kj12 1 (x1_1.take (ji12 : Int).toNat)).bind fun t176 => (if y168.length + t176.length < 140737488355328 then ((some (y168 ++ t176 : List Int)).bind fun y179 => ((some (([(ji12) % 256, 1] : List Int) : List Int)).bind fun y182 => (if y179.length + y182.length < 140737488355328 then ((some (y179 ++ y182 : List Int)).bind fun y185 => ((some (x1_1.take (ji12 : Int).toNat : List Int)).bind fun y188 => (if y185.length + y188.length < 140737488355328 then (impl_logPieces.l0 kj12 a0 (x1_1.drop (ji12 : Int).toNat) (y185 ++ y188) ((ji12) == (x1_1.length : Int)) true) else (none)))) else (none)))) else (none))) else (none)) else (none)) = some r := by rw [if_pos rfl] at H; exact H
                      clear H
                      have H := H1
                      clear H1
                      by_cases c20 : 0 ≤ ji12
                      · rw [if_pos c20] at H
                        have c20b0 := eq_true c20
                        have c20b1 : decide (0 ≤ ji12) = true := decide_eq_true c20
                        clear c20
                        by_cases c21 : ji12 ≤ (x1_1.length : Int)
                        · rw [if_pos c21] at H
                          have c21b0 := eq_true c21
                          have c21b1 : decide (ji12 ≤ (x1_1.length : Int)) = true := decide_eq_true c21
                          clear c21
                          obtain ⟨y171, hy171⟩ : ∃ y_ : List Int, y_ = (x1_1.take (ji12 : Int).toNat) := ⟨_, rfl⟩
                          replace H : ((impl_check.f kj12 1 y171).bind fun t176 => (if y168.length + t176.length < 140737488355328 then ((some (y168 ++ t176 : List Int)).bind fun y179 => ((some (([(ji12) % 256, 1] : List Int) : List Int)).bind fun y182 => (if y179.length + y182.length < 140737488355328 then ((some (y179 ++ y182 : List Int)).bind fun y185 => ((some (x1_1.take (ji12 : Int).toNat : List Int)).bind fun y188 => (if y185.length + y188.length < 140737488355328 then (impl_logPieces.l0 kj12 a0 (x1_1.drop (ji12 : Int).toNat) (y185 ++ y188) ((ji12) == (x1_1.length : Int)) true) else (none)))) else (none)))) else (none))) = some r := by first | (rw [hy171]; with_reducible exact H) | (have H2_ := (Option.bind_some _ _).symm.trans H; rw [hy171]; with_reducible exact H2_) | (have H2_ := (Option.bind_some _ _).symm.trans H; with_reducible exact H2_) | with_reducible exact H | (rw [hy171]; exact H) | exact H
                          have Ny171 := Aside0.mk hy171
                          clear hy171
                          replace H := Option.bind_eq_some_iff.mp H
                          obtain ⟨t176, A220, H⟩ := H
                          replace H : (if y168.length + t176.length < 140737488355328 then ((some (y168 ++ t176 : List Int)).bind fun y179 => ((some (([(ji12) % 256, 1] : List Int) : List Int)).bind fun y182 => (if y179.length + y182.length < 140737488355328 then ((some (y179 ++ y182 : List Int)).bind fun y185 => ((some (x1_1.take (ji12 : Int).toNat : List Int)).bind fun y188 => (if y185.length + y188.length < 140737488355328 then (impl_logPieces.l0 kj12 a0 (x1_1.drop (ji12 : Int).toNat) (y185 ++ y188) ((ji12) == (x1_1.length : Int)) true) else (none)))) else (none)))) else (none)) = some r := H
                          have A22 := Aside0.mk A220
                          clear A220
                          by_cases c23 : y168.length + t176.length < 140737488355328
                          · rw [if_pos c23] at H
                            have LMc23 := Aside0.mk c23
                            clear c23
                            obtain ⟨y179, hy179⟩ : ∃ y_ : List Int, y_ = (y168 ++ t176) := ⟨_, rfl⟩
                            replace H : ((some (([(ji12) % 256, 1] : List Int) : List Int)).bind fun y182 => (if y179.length + y182.length < 140737488355328 then ((some (y179 ++ y182 : List Int)).bind fun y185 => ((some (x1_1.take (ji12 : Int).toNat : List Int)).bind fun y188 => (if y185.length + y188.length < 140737488355328 then (impl_logPieces.l0 kj12 a0 (x1_1.drop (ji12 : Int).toNat) (y185 ++ y188) ((ji12) == (x1_1.length : Int)) true) else (none)))) else (none))) = some r := by first | (rw [hy179]; with_reducible exact H) | (have H2_ := (Option.bind_some _ _).symm.trans H; rw [hy179]; with_reducible exact H2_) | (have H2_ := (Option.bind_some _ _).symm.trans H; with_reducible exact H2_) | with_reducible exact H | (rw [hy179]; exact H) | exact H
                            have Ny179 := Aside0.mk hy179
                            clear hy179
                            obtain ⟨y182, hy182⟩ : ∃ y_ : List Int, y_ = (([(ji12) % 256, 1] : List Int)) := ⟨_, rfl⟩
                            replace H : (if y179.length + y182.length < 140737488355328 then ((some (y179 ++ y182 : List Int)).bind fun y185 => ((some (x1_1.take (ji12 : Int).toNat : List Int)).bind fun y188 => (if y185.length + y188.length < 140737488355328 then (impl_logPieces.l0 kj12 a0 (x1_1.drop (ji12 : Int).toNat) (y185 ++ y188) ((ji12) == (x1_1.length : Int)) true) else (none)))) else (none)) = some r := by first | (rw [hy182]; with_reducible exact H) | (have H2_ := (Option.bind_some _ _).symm.trans H; rw [hy182]; with_reducible exact H2_) | (have H2_ := (Option.bind_some _ _).symm.trans H; with_reducible exact H2_) | with_reducible exact H | (rw [hy182]; exact H) | exact H
                            have Ny182 := Aside0.mk hy182
                            clear hy182
                            by_cases c24 : y179.length + y182.length < 140737488355328
                            · rw [if_pos c24] at H
                              have LMc24 := Aside0.mk c24
                              clear c24
                              obtain ⟨y185, hy185⟩ : ∃ y_ : List Int, y_ = (y179 ++ y182) := ⟨_, rfl⟩
                              replace H : ((some (x1_1.take (ji12 : Int).toNat : List Int)).bind fun y188 => (if y185.length + y188.length < 140737488355328 then (impl_logPieces.l0 kj12 a0 (x1_1.drop (ji12 : Int).toNat) (y185 ++ y188) ((ji12) == (x1_1.length : Int)) true) else (none))) = some r := by first | (rw [hy185]; with_reducible exact H) | (have H2_ := (Option.bind_some _ _).symm.trans H; rw [hy185]; with_reducible exact H2_) | (have H2_ := (Option.bind_some _ _).symm.trans H; with_reducible exact H2_) | with_reducible exact H | (rw [hy185]; exact H) | exact H
                              have Ny185 := Aside0.mk hy185
                              clear hy185
                              have c25b0 := eq_true (of_decide_eq_true (by first | (with_reducible assumption) | assumption) : 0 ≤ ji12)
                              have c26b0 := eq_true (of_decide_eq_true (by first | (with_reducible assumption) | assumption) : ji12 ≤ (x1_1.length : Int))
                              obtain ⟨y188, hy188⟩ : ∃ y_ : List Int, y_ = (x1_1.take (ji12 : Int).toNat) := ⟨_, rfl⟩
                              replace H : (if y185.length + y188.length < 140737488355328 then (impl_logPieces.l0 kj12 a0 (x1_1.drop (ji12 : Int).toNat) (y185 ++ y188) ((ji12) == (x1_1.length : Int)) true) else (none)) = some r := by first | (rw [hy188]; with_reducible exact H) | (have H2_ := (Option.bind_some _ _).symm.trans H; rw [hy188]; with_reducible exact H2_) | (have H2_ := (Option.bind_some _ _).symm.trans H; with_reducible exact H2_) | with_reducible exact H | (rw [hy188]; exact H) | exact H
                              have Ny188 := Aside0.mk hy188
                              have Ey188 := Aside0.mk (show y188 = y171 from hy188.trans Ny171.out.symm)
                              clear hy188
                              by_cases c27 : y185.length + y188.length < 140737488355328
                              · rw [if_pos c27] at H
                                have LMc27 := Aside0.mk c27
                                clear c27
                                obtain ⟨y193, hy193⟩ : ∃ y_ : List Int, y_ = (y185 ++ y188) := ⟨_, rfl⟩
                                replace H : (impl_logPieces.l0 kj12 a0 (x1_1.drop (ji12 : Int).toNat) y193 ((ji12) == (x1_1.length : Int)) true) = some r := by first | (rw [hy193]; with_reducible exact H) | (have H2_ := (Option.bind_some _ _).symm.trans H; rw [hy193]; with_reducible exact H2_) | (have H2_ := (Option.bind_some _ _).symm.trans H; with_reducible exact H2_) | with_reducible exact H | (rw [hy193]; exact H) | exact H
                                have Ny193 := Aside0.mk hy193
                                clear hy193
                                have c28b0 := eq_true (of_decide_eq_true (by first | (with_reducible assumption) | assumption) : 0 ≤ ji12)
                                have c29b0 := eq_true (of_decide_eq_true (by first | (with_reducible assumption) | assumption) : ji12 ≤ (x1_1.length : Int))
                                obtain ⟨y196, hy196⟩ : ∃ y_ : List Int, y_ = (x1_1.drop (ji12 : Int).toNat) := ⟨_, rfl⟩
                                replace H : (impl_logPieces.l0 kj12 a0 y196 y193 ((ji12) == (x1_1.length : Int)) true) = some r := by first | (rw [hy196]; with_reducible exact H) | (have H2_ := (Option.bind_some _ _).symm.trans H; rw [hy196]; with_reducible exact H2_) | (have H2_ := (Option.bind_some _ _).symm.trans H; with_reducible exact H2_) | with_reducible exact H | (rw [hy196]; exact H) | exact H
                                have Ny196 := Aside0.mk hy196
                                clear hy196
                                have H' := Aside0.mk H
                                clear H
                                have q30 : (ji12 : Int) ≤ ((x1_1.length : Int) : Int) := of_decide_eq_true (by first | (with_reducible assumption) | assumption)
                                obtain ⟨i030, hi030, _, hsz30, _⟩ := info_parts info5
                                have hroom30 : x1_1.length ≤ co17 := (Kd.V_reads' HO_1.out).2.1
                                have hC30 : Kd.F (Kd.int .u8) _ _ Ao17 x1_1.length x1_1 := (Kd.V_at (base := w.heap.size) HO_1.out).2.2
                                have hcut30 := cut_to (P := Try.prog) 22 5 .i64 Try.underlying22 hi030 Ao17 x1_1.length co17 ji12 (of_decide_eq_true (by first | (with_reducible assumption) | assumption)) q30 hroom30
                                have hr30 := Kd.F_take (m := (ji12 : Int).toNat) hC30 (by omega)
                                have hy30 : y171.length = (ji12 : Int).toNat := (by rw [Ny171.out, List.length_take]; omega)
                                rw [← Ny171.out] at hr30
                                rw [← hy30] at hcut30
                                have HO175 := Aside0.mk (show Kd.V (Kd.int .u8) 5 _ w.heap.size _ (.slice Ao17 y171.length co17) y171 from Kd.V_mk (by omega) hr30)
                                have HC175 := Aside0.mk (show y171.length ≤ co17 from by omega)
                                clear hr30 hC30 hroom30 hi030 hsz30
                                have KY30 := Aside0.mk hy30
                                clear hy30
                                replace q30 := eq_true q30
                                go_wp2_with (first | ((with_reducible refine gate_callee (f := 107) rfl ?_); refine goesL_ (some 54) rfl rfl Try.func107 (by kernel_rfl) rfl #[.int .u8 1, .slice Ao17 y171.length co17] rfl (by (try simp only [List.map_toArray, List.map_cons, List.map_nil]); first | done | rfl | (simp only [List.length_drop, List.length_take]; rfl)) ?_; (with_reducible refine (impl_check.calls kj12 1 _ _ y171 t176 _ ?side1 ?side2 A22.out).mono ?_); (case side1 => repeat (first | exact (Kd.V_reads' HO175.out).2.2 | (with_reducible refine Kd.C_alloc ?_ _) | (with_reducible refine Kd.C_drewN ?_ _) | (with_reducible refine Kd.C_drew ?_))); (case side2 => exact (Kd.V_reads' HO175.out).2.1); rintro e w31 ⟨v177, rfl, ho0, hb⟩; refine ⟨_, rfl, ?_⟩; have n0_ := Aside0.mk (Kd.V_elder' (by (with_reducible repeat (first | apply Kd.V_alloc | apply Kd.V_drewN | apply Kd.V_drew)); exact HO_1.out) (Kd.R_base ho0) hb); have n1_ := Aside0.mk (Kd.R_elder' (by (with_reducible repeat (first | apply Kd.R_alloc | apply Kd.R_drewN | apply Kd.R_drew)); exact HO_5.out) (Kd.R_base ho0) hb); have n2_ := Aside0.mk (Kd.V_elder' (by (with_reducible repeat (first | apply Kd.V_alloc | apply Kd.V_drewN | apply Kd.V_drew)); exact HO175.out) (Kd.R_base ho0) hb); have n3_ := Aside0.mk (Kd.R_lower (Kd.R_new' (Kd.R_newM (M := fun k_ => (w.heap.size ≤ k_)) ho0 (below_size (by repeat (first | (with_reducible first | exact HB.out | apply below_alloc | apply pw_below_drewN | apply below_drew1) | exact HB.out))) (fun k_ h_ => h_)) (Kd.R_lt (by (with_reducible repeat (first | apply Kd.R_alloc | apply Kd.R_drewN | apply Kd.R_drew)); exact HO_5.out))) (below_size (by repeat (first | (with_reducible first | exact HB.out | apply below_alloc | apply pw_below_drewN | apply below_drew1) | exact HB.out)))); have n4_ := Aside0.mk (below_step (by repeat (first | (with_reducible first | exact HB.out | apply below_alloc | apply pw_below_drewN | apply below_drew1) | exact HB.out)) hb); clear HO_1; clear HO_5; clear HO175; clear HB; have HO_1 := n0_; have HO_5 := n1_; have HO175 := n2_; have HO178 := n3_; have HB := n4_; clear n0_ n1_ n2_ n3_ n4_; (try clear hb); (try clear hb2); (try clear hk); (try clear hi); (try clear ho0); obtain ⟨Ao33, co33, eo33⟩ := Kd.R_slice HO178.out; subst eo33) | ((with_reducible refine gate_builtin (b := .append) (xs := #[.tmp 49, .tmp 54]) rfl ?_); at_builtin; refine Kd.R_append_rows (Kd.int .u8) (w0 := w) w.heap.size rfl (.tmp 49) (.tmp 54) 22 5 (.int .u8 0) 1 rfl Try.underlying22 info5 rfl (by decide) (by omega) (.slice Ao16 y168.length co16) y168 t176 _ _ _ (fun k_ => (w.heap.size ≤ k_) ∧ some k_ ≠ (.slice Ao33 t176.length co33 : Value).ownBlock) (fun _ => False) rfl rfl ?aO ?aR (fun _ _ h => h) (fun _ h => h.elim) ?aF ?aB ?aS ?aL ?_; (case aR => repeat (first | exact (Kd.R_reads' HO178.out).2.2 | (with_reducible refine Kd.C_alloc ?_ _) | (with_reducible refine Kd.C_drewN ?_ _) | (with_reducible refine Kd.C_drew ?_))); (case aB => exact (by repeat (first | (with_reducible first | exact HB.out | apply below_alloc | apply pw_below_drewN | apply below_drew1) | exact HB.out))); (case aF => exact (fun k_ hk => ⟨(Nat.le_trans (below_size (by repeat (first | (with_reducible first | exact HB.out | apply below_alloc | apply pw_below_drewN | apply below_drew1) | exact HB.out))) hk), Kd.fresh' (Kd.R_lt (by (with_reducible repeat (first | apply Kd.R_alloc | apply Kd.R_drewN | apply Kd.R_drew)); exact HO178.out)) k_ hk⟩)); (case aO => exact (by (with_reducible repeat (first | apply Kd.R_alloc | apply Kd.R_drewN | apply Kd.R_drew)); exact HO_5.out)); (case aS => exact (below_size (by repeat (first | (with_reducible first | exact HB.out | apply below_alloc | apply pw_below_drewN | apply below_drew1) | exact HB.out)))); (case aL => have := LMc23.out; omega); intro v180 w32 ho hb hg hat; rw [← Ny179.out] at ho; have n0_ := Aside0.mk (Kd.V_afterv (ok := (fun k_ => (P1_ k_ ∨ w.heap.size ≤ k_) ∧ some k_ ≠ (.slice Ao33 t176.length co33 : Value).ownBlock)) (by (with_reducible repeat (first | apply Kd.V_alloc | apply Kd.V_drewN | apply Kd.V_drew)); exact Kd.V_mono HO_1.out (fun _ hk => ⟨⟨hk.1.1, hk.2⟩, hk.1.2⟩)) hg hat); have n1_ := Aside0.mk (Kd.V_afterv (ok := (fun k_ => (P1_ k_ ∨ w.heap.size ≤ k_) ∧ some k_ ≠ (.slice Ao33 t176.length co33 : Value).ownBlock)) (by (with_reducible repeat (first | apply Kd.V_alloc | apply Kd.V_drewN | apply Kd.V_drew)); exact Kd.V_mono HO175.out (fun _ hk => ⟨⟨hk.1.1, hk.2⟩, hk.1.2⟩)) hg hat); have n2_ := Aside0.mk (Kd.R_after (ok := (fun k_ => (w.heap.size ≤ k_))) (by (with_reducible repeat (first | apply Kd.R_alloc | apply Kd.R_drewN | apply Kd.R_drew)); exact Kd.R_mono HO178.out (fun _ hk => ⟨hk.1.1, hk.2⟩)) hg hat); have n3_ := Aside0.mk (hb); have n4_ := Aside0.mk (ho); clear HO_1; clear HO175; clear HO178; clear HB; clear HO_5; have HO_1 := n0_; have HO175 := n1_; have HO178 := n2_; have HB := n3_; have HO181 := n4_; clear n0_ n1_ n2_ n3_ n4_; clear ho hb hg hat) | ((with_reducible refine gate_dst (N := 59) rfl ?_); refine Kd.R_lit (Kd.int .u8) _ 5 ?hg (N := 59) ?hd (xs := ([(ji12) % 256, 1] : List Int)) (inner := [.int .u8 ((ji12) % 256), .int .u8 1]) (ok := fun _ => True) (okp := fun _ => True) ?hr ?hp (fun _ hk => hk) trivial (Below.refl _ _) (Nat.le_refl _) (by simp) ?_; (case hd => rfl); (case hg => rfl); (case hr => first | (go_simp; done) | (go_simp; rfl)); (case hp => exact (Reps.one (show Kd.M (Kd.int .u8) _ _ _ ((ji12) % 256) [.int .u8 ((ji12) % 256)] from rfl) (Reps.one (show Kd.M (Kd.int .u8) _ _ _ 1 [.int .u8 1] from rfl) (Reps.none _ _)))); intro v183 w34 ho35 hb hg_ hnew_; clear hg_ hnew_; (first | rw [← Ny182.out] at ho35 | (simp only [Int.reduceToNat] at ho35; rw [← Ny182.out] at ho35)); have n0_ := Aside0.mk (Kd.V_elder' (by (with_reducible repeat (first | apply Kd.V_alloc | apply Kd.V_drewN | apply Kd.V_drew)); exact HO_1.out) (Kd.R_base ho35) hb); have n1_ := Aside0.mk (Kd.V_elder' (by (with_reducible repeat (first | apply Kd.V_alloc | apply Kd.V_drewN | apply Kd.V_drew)); exact HO175.out) (Kd.R_base ho35) hb); have n2_ := Aside0.mk (Kd.R_elder' (by (with_reducible repeat (first | apply Kd.R_alloc | apply Kd.R_drewN | apply Kd.R_drew)); exact HO178.out) (Kd.R_base ho35) hb); have n3_ := Aside0.mk (Kd.R_elder' (by (with_reducible repeat (first | apply Kd.R_alloc | apply Kd.R_drewN | apply Kd.R_drew)); exact HO181.out) (Kd.R_base ho35) hb); have n4_ := Aside0.mk (Kd.R_lower (Kd.R_new' (Kd.R_new' (Kd.R_newM (M := fun k_ => (w.heap.size ≤ k_)) ho35 (below_size (by repeat (first | (with_reducible first | exact HB.out | apply below_alloc | apply pw_below_drewN | apply below_drew1) | exact HB.out))) (fun k_ h_ => h_)) (Kd.R_lt (by (with_reducible repeat (first | apply Kd.R_alloc | apply Kd.R_drewN | apply Kd.R_drew)); exact HO178.out))) (Kd.R_lt (by (with_reducible repeat (first | apply Kd.R_alloc | apply Kd.R_drewN | apply Kd.R_drew)); exact HO181.out))) (below_size (by repeat (first | (with_reducible first | exact HB.out | apply below_alloc | apply pw_below_drewN | apply below_drew1) | exact HB.out)))); have n5_ := Aside0.mk (below_step (by repeat (first | (with_reducible first | exact HB.out | apply below_alloc | apply pw_below_drewN | apply below_drew1) | exact HB.out)) hb); clear HO_1; clear HO175; clear HO178; clear HO181; clear HB; have HO_1 := n0_; have HO175 := n1_; have HO178 := n2_; have HO181 := n3_; have HO184 := n4_; have HB := n5_; clear n0_ n1_ n2_ n3_ n4_ n5_; clear hb ho35; obtain ⟨Ao37, co37, eo37⟩ := Kd.R_slice HO184.out; subst eo37) | ((with_reducible refine gate_builtin (b := .append) (xs := #[.tmp 55, .tmp 59]) rfl ?_); at_builtin; refine Kd.R_append_rows (Kd.int .u8) (w0 := w) w.heap.size rfl (.tmp 55) (.tmp 59) 22 5 (.int .u8 0) 1 rfl Try.underlying22 info5 rfl (by decide) (by omega) v180 y179 y182 _ _ _ (fun k_ => (w.heap.size ≤ k_) ∧ some k_ ≠ (.slice Ao33 t176.length co33 : Value).ownBlock ∧ some k_ ≠ (.slice Ao37 y182.length co37 : Value).ownBlock) (fun _ => False) rfl rfl ?aO ?aR (fun _ _ h => h) (fun _ h => h.elim) ?aF ?aB ?aS ?aL ?_; (case aR => repeat (first | exact (Kd.R_reads' HO184.out).2.2 | (with_reducible refine Kd.C_alloc ?_ _) | (with_reducible refine Kd.C_drewN ?_ _) | (with_reducible refine Kd.C_drew ?_))); (case aB => exact (by repeat (first | (with_reducible first | exact HB.out | apply below_alloc | apply pw_below_drewN | apply below_drew1) | exact HB.out))); (case aF => exact (fun k_ hk => ⟨(Nat.le_trans (below_size (by repeat (first | (with_reducible first | exact HB.out | apply below_alloc | apply pw_below_drewN | apply below_drew1) | exact HB.out))) hk), Kd.fresh' (Kd.R_lt (by (with_reducible repeat (first | apply Kd.R_alloc | apply Kd.R_drewN | apply Kd.R_drew)); exact HO178.out)) k_ hk, Kd.fresh' (Kd.R_lt (by (with_reducible repeat (first | apply Kd.R_alloc | apply Kd.R_drewN | apply Kd.R_drew)); exact HO184.out)) k_ hk⟩)); (case aO => exact (by (with_reducible repeat (first | apply Kd.R_alloc | apply Kd.R_drewN | apply Kd.R_drew)); exact Kd.R_mono HO181.out (fun _ hk => ⟨hk.1.1, ⟨hk.1.2, hk.2⟩⟩))); (case aS => exact (below_size (by repeat (first | (with_reducible first | exact HB.out | apply below_alloc | apply pw_below_drewN | apply below_drew1) | exact HB.out)))); (case aL => have := LMc24.out; omega); intro v186 w36 ho hb hg hat; rw [← Ny185.out] at ho; have n0_ := Aside0.mk (Kd.V_afterv (ok := (fun k_ => (P1_ k_ ∨ w.heap.size ≤ k_) ∧ some k_ ≠ (.slice Ao33 t176.length co33 : Value).ownBlock ∧ some k_ ≠ (.slice Ao37 y182.length co37 : Value).ownBlock)) (by (with_reducible repeat (first | apply Kd.V_alloc | apply Kd.V_drewN | apply Kd.V_drew)); exact Kd.V_mono HO_1.out (fun _ hk => ⟨⟨hk.1.1.1, ⟨hk.1.1.2, hk.2⟩⟩, hk.1.2⟩)) hg hat); have n1_ := Aside0.mk (Kd.V_afterv (ok := (fun k_ => (P1_ k_ ∨ w.heap.size ≤ k_) ∧ some k_ ≠ (.slice Ao33 t176.length co33 : Value).ownBlock ∧ some k_ ≠ (.slice Ao37 y182.length co37 : Value).ownBlock)) (by (with_reducible repeat (first | apply Kd.V_alloc | apply Kd.V_drewN | apply Kd.V_drew)); exact Kd.V_mono HO175.out (fun _ hk => ⟨⟨hk.1.1.1, ⟨hk.1.1.2, hk.2⟩⟩, hk.1.2⟩)) hg hat); have n2_ := Aside0.mk (Kd.R_after (ok := (fun k_ => (w.heap.size ≤ k_) ∧ some k_ ≠ (.slice Ao37 y182.length co37 : Value).ownBlock)) (by (with_reducible repeat (first | apply Kd.R_alloc | apply Kd.R_drewN | apply Kd.R_drew)); exact Kd.R_mono HO178.out (fun _ hk => ⟨⟨hk.1.1, hk.2⟩, hk.1.2⟩)) hg hat); have n3_ := Aside0.mk (Kd.R_after (ok := (fun k_ => (w.heap.size ≤ k_) ∧ some k_ ≠ (.slice Ao33 t176.length co33 : Value).ownBlock)) (by (with_reducible repeat (first | apply Kd.R_alloc | apply Kd.R_drewN | apply Kd.R_drew)); exact Kd.R_mono HO184.out (fun _ hk => ⟨⟨hk.1.1.1, hk.1.2⟩, hk.2⟩)) hg hat); have n4_ := Aside0.mk (hb); have n5_ := Aside0.mk (ho); clear HO_1; clear HO175; clear HO178; clear HO184; clear HB; clear HO181; have HO_1 := n0_; have HO175 := n1_; have HO178 := n2_; have HO184 := n3_; have HB := n4_; have HO187 := n5_; clear n0_ n1_ n2_ n3_ n4_ n5_; clear ho hb hg hat; have q38 : (ji12 : Int) ≤ ((x1_1.length : Int) : Int) := of_decide_eq_true (by first | (with_reducible assumption) | assumption); obtain ⟨i038, hi038, _, hsz38, _⟩ := info_parts info5; have hroom38 : x1_1.length ≤ co17 := (Kd.V_reads' HO_1.out).2.1; have hC38 : Kd.F (Kd.int .u8) _ _ Ao17 x1_1.length x1_1 := (Kd.V_at (base := w.heap.size) HO_1.out).2.2; have hcut38 := cut_to (P := Try.prog) 22 5 .i64 Try.underlying22 hi038 Ao17 x1_1.length co17 ji12 (of_decide_eq_true (by first | (with_reducible assumption) | assumption)) q38 hroom38; have hr38 := Kd.F_take (m := (ji12 : Int).toNat) hC38 (by omega); have hy38 : y188.length = (ji12 : Int).toNat := (by rw [Ny188.out, List.length_take]; omega); rw [← Ny188.out] at hr38; rw [← hy38] at hcut38; have HO192 := Aside0.mk (show Kd.V (Kd.int .u8) 5 _ w.heap.size _ (.slice Ao17 y188.length co17) y188 from Kd.V_mk (by omega) hr38); have HC192 := Aside0.mk (show y188.length ≤ co17 from by omega); clear hr38 hC38 hroom38 hi038 hsz38; have KY38 := Aside0.mk hy38; clear hy38; replace q38 := eq_true q38) | ((with_reducible refine gate_builtin (b := .append) (xs := #[.tmp 61, .tmp 64]) rfl ?_); at_builtin; refine Kd.R_append_rows (Kd.int .u8) (w0 := w) w.heap.size rfl (.tmp 61) (.tmp 64) 22 5 (.int .u8 0) 1 rfl Try.underlying22 info5 rfl (by decide) (by omega) v186 y185 y188 _ _ _ (fun k_ => (w.heap.size ≤ k_) ∧ some k_ ≠ (.slice Ao33 t176.length co33 : Value).ownBlock ∧ some k_ ≠ (.slice Ao37 y182.length co37 : Value).ownBlock) (fun _ => False) rfl rfl ?aO ?aR (fun _ _ h => h) (fun _ h => h.elim) ?aF ?aB ?aS ?aL ?_; (case aR => repeat (first | exact (Kd.V_reads' HO192.out).2.2 | exact (by have z_ := (Kd.V_reads' HO192.out).2.2; rw [Ey188.out] at z_ ⊢; exact z_) | (with_reducible refine Kd.C_alloc ?_ _) | (with_reducible refine Kd.C_drewN ?_ _) | (with_reducible refine Kd.C_drew ?_))); (case aB => exact (by repeat (first | (with_reducible first | exact HB.out | apply below_alloc | apply pw_below_drewN | apply below_drew1) | exact HB.out))); (case aF => exact (fun k_ hk => ⟨(Nat.le_trans (below_size (by repeat (first | (with_reducible first | exact HB.out | apply below_alloc | apply pw_below_drewN | apply below_drew1) | exact HB.out))) hk), Kd.fresh' (Kd.R_lt (by (with_reducible repeat (first | apply Kd.R_alloc | apply Kd.R_drewN | apply Kd.R_drew)); exact HO178.out)) k_ hk, Kd.fresh' (Kd.R_lt (by (with_reducible repeat (first | apply Kd.R_alloc | apply Kd.R_drewN | apply Kd.R_drew)); exact HO184.out)) k_ hk⟩)); (case aO => exact (by (with_reducible repeat (first | apply Kd.R_alloc | apply Kd.R_drewN | apply Kd.R_drew)); exact HO187.out)); (case aS => exact (below_size (by repeat (first | (with_reducible first | exact HB.out | apply below_alloc | apply pw_below_drewN | apply below_drew1) | exact HB.out)))); (case aL => have := LMc27.out; have := congrArg List.length Ey188.out; omega); intro v194 w39 ho hb hg hat; rw [← Ny193.out] at ho; have n0_ := Aside0.mk (Kd.V_afterv (ok := (fun k_ => (P1_ k_ ∨ w.heap.size ≤ k_) ∧ some k_ ≠ (.slice Ao33 t176.length co33 : Value).ownBlock ∧ some k_ ≠ (.slice Ao37 y182.length co37 : Value).ownBlock)) (by (with_reducible repeat (first | apply Kd.V_alloc | apply Kd.V_drewN | apply Kd.V_drew)); exact HO_1.out) hg hat); have n1_ := Aside0.mk (Kd.V_afterv (ok := (fun k_ => (P1_ k_ ∨ w.heap.size ≤ k_) ∧ some k_ ≠ (.slice Ao33 t176.length co33 : Value).ownBlock ∧ some k_ ≠ (.slice Ao37 y182.length co37 : Value).ownBlock)) (by (with_reducible repeat (first | apply Kd.V_alloc | apply Kd.V_drewN | apply Kd.V_drew)); exact HO175.out) hg hat); have n2_ := Aside0.mk (Kd.R_after (ok := (fun k_ => (w.heap.size ≤ k_) ∧ some k_ ≠ (.slice Ao37 y182.length co37 : Value).ownBlock)) (by (with_reducible repeat (first | apply Kd.R_alloc | apply Kd.R_drewN | apply Kd.R_drew)); exact HO178.out) hg hat); have n3_ := Aside0.mk (Kd.R_after (ok := (fun k_ => (w.heap.size ≤ k_) ∧ some k_ ≠ (.slice Ao33 t176.length co33 : Value).ownBlock)) (by (with_reducible repeat (first | apply Kd.R_alloc | apply Kd.R_drewN | apply Kd.R_drew)); exact HO184.out) hg hat); have n4_ := Aside0.mk (Kd.V_afterv (ok := (fun k_ => (P1_ k_ ∨ w.heap.size ≤ k_) ∧ some k_ ≠ (.slice Ao33 t176.length co33 : Value).ownBlock ∧ some k_ ≠ (.slice Ao37 y182.length co37 : Value).ownBlock)) (by (with_reducible repeat (first | apply Kd.V_alloc | apply Kd.V_drewN | apply Kd.V_drew)); exact HO192.out) hg hat); have n5_ := Aside0.mk (hb); have n6_ := Aside0.mk (ho); clear HO_1; clear HO175; clear HO178; clear HO184; clear HO192; clear HB; clear HO187; have HO_1 := n0_; have HO175 := n1_; have HO178 := n2_; have HO184 := n3_; have HO192 := n4_; have HB := n5_; have HO195 := n6_; clear n0_ n1_ n2_ n3_ n4_ n5_ n6_; clear ho hb hg hat; have q40 : (ji12 : Int) ≤ ((x1_1.length : Int) : Int) := of_decide_eq_true (by first | (with_reducible assumption) | assumption); obtain ⟨i040, hi040, _, hsz40, _⟩ := info_parts info5; have hroom40 : x1_1.length ≤ co17 := (Kd.V_reads' HO_1.out).2.1; have hC40 : Kd.F (Kd.int .u8) _ _ Ao17 x1_1.length x1_1 := (Kd.V_at (base := w.heap.size) HO_1.out).2.2; have q040 : (0 : Int) ≤ (ji12 : Int) := of_decide_eq_true (by first | (with_reducible assumption) | assumption); have hcut40 := cut_from (P := Try.prog) 22 5 .i64 Try.underlying22 hi040 1 hsz40 Ao17 x1_1.length co17 ji12 q040 q40; have hr40 := Kd.F_cut (m := (ji12 : Int).toNat) (c := co17) hC40 (by omega) hroom40; obtain ⟨A40, hA40⟩ : ∃ A1, A1 = (if co17 = (ji12 : Int).toNat then Ao17 else (Ao17 : Option Addr).map (·.add ((ji12 : Int).toNat * 1))) := ⟨_, rfl⟩; obtain ⟨c40, hc40⟩ : ∃ c1, c1 = co17 - (ji12 : Int).toNat := ⟨_, rfl⟩; have hy40 : y196.length = x1_1.length - (ji12 : Int).toNat := (by rw [Ny196.out, List.length_drop] <;> omega); rw [show (x1_1).drop (ji12 : Int).toNat = y196 from Ny196.out.symm] at hr40; replace hr40 : Kd.F (Kd.int .u8) _ _ A40 y196.length y196 := (by rw [hA40]; exact hr40); rw [← hy40, ← hA40, ← hc40] at hcut40; have HO200 := Aside0.mk (show Kd.V (Kd.int .u8) 5 _ w.heap.size _ (.slice A40 y196.length c40) y196 from Kd.V_mk (by rw [hy40, hc40]; exact Nat.sub_le_sub_right hroom40 _) hr40); have HC200 := Aside0.mk (show y196.length ≤ c40 from by rw [hy40, hc40]; exact Nat.sub_le_sub_right hroom40 _); clear hr40 hC40 hroom40 hi040 hsz40 hc40; have KY40 := Aside0.mk hy40; have KA40 := Aside0.mk hA40; clear hy40 hA40; replace q40 := eq_true q40))
                                go_roundg kj12
                                case measure => have := HK1.out; have := HJ12.out; omega
                                case rel => exact ⟨(y196), (y193), (((ji12) == (x1_1.length : Int))), (true), (by first | rfl | (simp; done) | (first | exact congrArg Value.bool (by assumption) | exact congrArg Value.bool (Eq.symm (by assumption)) | (simp only [← hji12] <;> (first | rfl | (simp; done)))) | (simp [*]; done)), (by first | rfl | (simp; done) | (simp [*]; done)), H', ⟨by have := HK1.out; have := HJ12.out; omega⟩, ⟨by (with_reducible repeat (first | apply Kd.V_alloc | apply Kd.V_drewN | apply Kd.V_drew)); exact Kd.V_mono HO200.out (fun _ hk => ⟨hk.1.1, hk.2⟩)⟩, ⟨by (with_reducible repeat (first | apply Kd.R_alloc | apply Kd.R_drewN | apply Kd.R_drew)); exact Kd.R_mono HO195.out (fun _ hk => hk.1)⟩, ⟨by repeat (first | (with_reducible first | exact HB.out | apply below_alloc | apply pw_below_drewN | apply below_drew1) | exact HB.out)⟩⟩
                              · rw [if_neg c27] at H
                                exact absurd H (by simp)
                            · rw [if_neg c24] at H
                              exact absurd H (by simp)
                          · rw [if_neg c23] at H
                            exact absurd H (by simp)
                        · rw [if_neg c21] at H
                          exact absurd H (by simp)
                      · rw [if_neg c20] at H
                        exact absurd H (by simp)
                    · replace c19 := Bool.eq_false_iff.mpr c19
                      subst c19
                      have H1 : (if x7_1 = true then (if ((ji12) == (x1_1.length : Int)) = true then (if 0 ≤ ji12 then (if ji12 ≤ (x1_1.length : Int) then ((impl_check.f kj12 4 (x1_1.take (ji12 : Int).toNat)).bind fun t206 => (if y168.length + t206.length < 140737488355328 then ((some (y168 ++ t206 : List Int)).bind fun y209 => ((some (([(ji12) % 256, 4] : List Int) : List Int)).bind fun y212 => (if y209.length + y212.length < 140737488355328 then ((some (y209 ++ y212 : List Int)).bind fun y215 => ((some (x1_1.take (ji12 : Int).toNat : List Int)).bind fun y218 => (if y215.length + y218.length < 140737488355328 then (impl_logPieces.l0 kj12 a0 (x1_1.drop (ji12 : Int).toNat) (y215 ++ y218) ((ji12) == (x1_1.length : Int)) true) else (none)))) else (none)))) else (none))) else (none)) else (none)) else (if 0 ≤ ji12 then (if ji12 ≤ (x1_1.length : Int) then ((impl_check.f kj12 3 (x1_1.take (ji12 : Int).toNat)).bind fun t236 => (if y168.length + t236.length < 140737488355328 then ((some (y168 ++ t236 : List Int)).bind fun y239 => ((some (([(ji12) % 256, 3] : List Int) : List Int)).bind fun y242 => (if y239.length + y242.length < 140737488355328 then ((some (y239 ++ y242 : List Int)).bind fun y245 => ((some (x1_1.take (ji12 : Int).toNat : List Int)).bind fun y248 => (if y245.length + y248.length < 140737488355328 then (impl_logPieces.l0 kj12 a0 (x1_1.drop (ji12 : Int).toNat) (y245 ++ y248) ((ji12) == (x1_1.length : Int)) true) else (none)))) else (none)))) else (none))) else (none)) else (none))) else (if 0 ≤ ji12 then (if ji12 ≤ (x1_1.length : Int) then ((impl_check.f kj12 2 (x1_1.take (ji12 : Int).toNat)).bind fun t266 => (if y168.length + t266.length < 140737488355328 then ((some (y168 ++ t266 : List Int)).bind fun y269 => ((some (([(ji12) % 256, 2] : List Int) : List Int)).bind fun y272 => (if y269.length + y272.length < 140737488355328 then ((some (y269 ++ y272 : List Int)).bind fun y275 => ((some (x1_1.take (ji12 : Int).toNat : List Int)).bind fun y278 => (if y275.length + y278.length < 140737488355328 then (impl_logPieces.l0 kj12 a0 (x1_1.drop (ji12 : Int).toNat) (y275 ++ y278) ((ji12) == (x1_1.length : Int)) true) else (none)))) else (none)))) else (none))) else (none)) else (none))) = some r := by rw [if_neg (show ¬ (false = true) by decide)] at H; exact H
                      clear H
                      have H := H1
                      clear H1
                      by_cases c41 : x7_1 = true
                      · subst c41
                        have H1 : (if ((ji12) == (x1_1.length : Int)) = true then (if 0 ≤ ji12 then (if ji12 ≤ (x1_1.length : Int) then ((impl_check.f kj12 4 (x1_1.take (ji12 : Int).toNat)).bind fun t206 => (if y168.length + t206.length < 140737488355328 then ((some (y168 ++ t206 : List Int)).bind fun y209 => ((some (([(ji12) % 256, 4] : List Int) : List Int)).bind fun y212 => (if y209.length + y212.length < 140737488355328 then ((some (y209 ++ y212 : List Int)).bind fun y215 => ((some (x1_1.take (ji12 : Int).toNat : List Int)).bind fun y218 => (if y215.length + y218.length < 140737488355328 then (impl_logPieces.l0 kj12 a0 (x1_1.drop (ji12 : Int).toNat) (y215 ++ y218) ((ji12) == (x1_1.length : Int)) true) else (none)))) else (none)))) else (none))) else (none)) else (none)) else (if 0 ≤ ji12 then (if ji12 ≤ (x1_1.length : Int) then ((impl_check.f kj12 3 (x1_1.take (ji12 : Int).toNat)).bind fun t236 => (if y168.length + t236.length < 140737488355328 then ((some (y168 ++ t236 : List Int)).bind fun y239 => ((some (([(ji12) % 256, 3] : List Int) : List Int)).bind fun y242 => (if y239.length + y242.length < 140737488355328 then ((some (y239 ++ y242 : List Int)).bind fun y245 => ((some (x1_1.take (ji12 : Int).toNat : List Int)).bind fun y248 => (if y245.length + y248.length < 140737488355328 then (impl_logPieces.l0 kj12 a0 (x1_1.drop (ji12 : Int).toNat) (y245 ++ y248) ((ji12) == (x1_1.length : Int)) true) else (none)))) else (none)))) else (none))) else (none)) else (none))) = some r := by rw [if_pos rfl] at H; exact H
                        clear H
                        have H := H1
                        clear H1
                        by_cases c42 : ((ji12) == (x1_1.length : Int)) = true
                        · rw [if_pos c42] at H
                          have c42b0 : ((ji12) == (x1_1.length : Int)) = true := c42
                          (try (have c42b1 : decide ((ji12) = (x1_1.length : Int)) = true := by simpa using c42))
                          (try (have c42b2 : ((ji12) == (x1_1.length : Int)) = true := by simpa using c42))
                          clear c42
                          by_cases c43 : 0 ≤ ji12
                          · rw [if_pos c43] at H
                            have c43b0 := eq_true c43
                            have c43b1 : decide (0 ≤ ji12) = true := decide_eq_true c43
                            clear c43
                            by_cases c44 : ji12 ≤ (x1_1.length : Int)
                            · rw [if_pos c44] at H
                              have c44b0 := eq_true c44
                              have c44b1 : decide (ji12 ≤ (x1_1.length : Int)) = true := decide_eq_true c44
                              clear c44
                              obtain ⟨y201, hy201⟩ : ∃ y_ : List Int, y_ = (x1_1.take (ji12 : Int).toNat) := ⟨_, rfl⟩
                              replace H : ((impl_check.f kj12 4 y201).bind fun t206 => (if y168.length + t206.length < 140737488355328 then ((some (y168 ++ t206 : List Int)).bind fun y209 => ((some (([(ji12) % 256, 4] : List Int) : List Int)).bind fun y212 => (if y209.length + y212.length < 140737488355328 then ((some (y209 ++ y212 : List Int)).bind fun y215 => ((some (x1_1.take (ji12 : Int).toNat : List Int)).bind fun y218 => (if y215.length + y218.length < 140737488355328 then (impl_logPieces.l0 kj12 a0 (x1_1.drop (ji12 : Int).toNat) (y215 ++ y218) ((ji12) == (x1_1.length : Int)) true) else (none)))) else (none)))) else (none))) = some r := by first | (rw [hy201]; with_reducible exact H) | (have H2_ := (Option.bind_some _ _).symm.trans H; rw [hy201]; with_reducible exact H2_) | (have H2_ := (Option.bind_some _ _).symm.trans H; with_reducible exact H2_) | with_reducible exact H | (rw [hy201]; exact H) | exact H
                              have Ny201 := Aside0.mk hy201
                              clear hy201
                              replace H := Option.bind_eq_some_iff.mp H
                              obtain ⟨t206, A450, H⟩ := H
                              replace H : (if y168.length + t206.length < 140737488355328 then ((some (y168 ++ t206 : List Int)).bind fun y209 => ((some (([(ji12) % 256, 4] : List Int) : List Int)).bind fun y212 => (if y209.length + y212.length < 140737488355328 then ((some (y209 ++ y212 : List Int)).bind fun y215 => ((some (x1_1.take (ji12 : Int).toNat : List Int)).bind fun y218 => (if y215.length + y218.length < 140737488355328 then (impl_logPieces.l0 kj12 a0 (x1_1.drop (ji12 : Int).toNat) (y215 ++ y218) ((ji12) == (x1_1.length : Int)) true) else (none)))) else (none)))) else (none)) = some r := H
                              have A45 := Aside0.mk A450
                              clear A450
                              by_cases c46 : y168.length + t206.length < 140737488355328
                              · rw [if_pos c46] at H
                                have LMc46 := Aside0.mk c46
                                clear c46
                                obtain ⟨y209, hy209⟩ : ∃ y_ : List Int, y_ = (y168 ++ t206) := ⟨_, rfl⟩
                                replace H : ((some (([(ji12) % 256, 4] : List Int) : List Int)).bind fun y212 => (if y209.length + y212.length < 140737488355328 then ((some (y209 ++ y212 : List Int)).bind fun y215 => ((some (x1_1.take (ji12 : Int).toNat : List Int)).bind fun y218 => (if y215.length + y218.length < 140737488355328 then (impl_logPieces.l0 kj12 a0 (x1_1.drop (ji12 : Int).toNat) (y215 ++ y218) ((ji12) == (x1_1.length : Int)) true) else (none)))) else (none))) = some r := by first | (rw [hy209]; with_reducible exact H) | (have H2_ := (Option.bind_some _ _).symm.trans H; rw [hy209]; with_reducible exact H2_) | (have H2_ := (Option.bind_some _ _).symm.trans H; with_reducible exact H2_) | with_reducible exact H | (rw [hy209]; exact H) | exact H
                                have Ny209 := Aside0.mk hy209
                                clear hy209
                                obtain ⟨y212, hy212⟩ : ∃ y_ : List Int, y_ = (([(ji12) % 256, 4] : List Int)) := ⟨_, rfl⟩
                                replace H : (if y209.length + y212.length < 140737488355328 then ((some (y209 ++ y212 : List Int)).bind fun y215 => ((some (x1_1.take (ji12 : Int).toNat : List Int)).bind fun y218 => (if y215.length + y218.length < 140737488355328 then (impl_logPieces.l0 kj12 a0 (x1_1.drop (ji12 : Int).toNat) (y215 ++ y218) ((ji12) == (x1_1.length : Int)) true) else (none)))) else (none)) = some r := by first | (rw [hy212]; with_reducible exact H) | (have H2_ := (Option.bind_some _ _).symm.trans H; rw [hy212]; with_reducible exact H2_) | (have H2_ := (Option.bind_some _ _).symm.trans H; with_reducible exact H2_) | with_reducible exact H | (rw [hy212]; exact H) | exact H
                                have Ny212 := Aside0.mk hy212
                                clear hy212
                                by_cases c47 : y209.length + y212.length < 140737488355328
                                · rw [if_pos c47] at H
                                  have LMc47 := Aside0.mk c47
                                  clear c47
                                  obtain ⟨y215, hy215⟩ : ∃ y_ : List Int, y_ = (y209 ++ y212) := ⟨_, rfl⟩
                                  replace H : ((some (x1_1.take (ji12 : Int).toNat : List Int)).bind fun y218 => (if y215.length + y218.length < 140737488355328 then (impl_logPieces.l0 kj12 a0 (x1_1.drop (ji12 : Int).toNat) (y215 ++ y218) ((ji12) == (x1_1.length : Int)) true) else (none))) = some r := by first | (rw [hy215]; with_reducible exact H) | (have H2_ := (Option.bind_some _ _).symm.trans H; rw [hy215]; with_reducible exact H2_) | (have H2_ := (Option.bind_some _ _).symm.trans H; with_reducible exact H2_) | with_reducible exact H | (rw [hy215]; exact H) | exact H
                                  have Ny215 := Aside0.mk hy215
                                  clear hy215
                                  have c48b0 := eq_true (of_decide_eq_true (by first | (with_reducible assumption) | assumption) : 0 ≤ ji12)
                                  have c49b0 := eq_true (of_decide_eq_true (by first | (with_reducible assumption) | assumption) : ji12 ≤ (x1_1.length : Int))
                                  obtain ⟨y218, hy218⟩ : ∃ y_ : List Int, y_ = (x1_1.take (ji12 : Int).toNat) := ⟨_, rfl⟩
                                  replace H : (if y215.length + y218.length < 140737488355328 then (impl_logPieces.l0 kj12 a0 (x1_1.drop (ji12 : Int).toNat) (y215 ++ y218) ((ji12) == (x1_1.length : Int)) true) else (none)) = some r := by first | (rw [hy218]; with_reducible exact H) | (have H2_ := (Option.bind_some _ _).symm.trans H; rw [hy218]; with_reducible exact H2_) | (have H2_ := (Option.bind_some _ _).symm.trans H; with_reducible exact H2_) | with_reducible exact H | (rw [hy218]; exact H) | exact H
                                  have Ny218 := Aside0.mk hy218
                                  have Ey218 := Aside0.mk (show y218 = y201 from hy218.trans Ny201.out.symm)
                                  clear hy218
                                  by_cases c50 : y215.length + y218.length < 140737488355328
                                  · rw [if_pos c50] at H
                                    have LMc50 := Aside0.mk c50
                                    clear c50
                                    obtain ⟨y223, hy223⟩ : ∃ y_ : List Int, y_ = (y215 ++ y218) := ⟨_, rfl⟩
                                    replace H : (impl_logPieces.l0 kj12 a0 (x1_1.drop (ji12 : Int).toNat) y223 ((ji12) == (x1_1.length : Int)) true) = some r := by first | (rw [hy223]; with_reducible exact H) | (have H2_ := (Option.bind_some _ _).symm.trans H; rw [hy223]; with_reducible exact H2_) | (have H2_ := (Option.bind_some _ _).symm.trans H; with_reducible exact H2_) | with_reducible exact H | (rw [hy223]; exact H) | exact H
                                    have Ny223 := Aside0.mk hy223
                                    clear hy223
                                    have c51b0 := eq_true (of_decide_eq_true (by first | (with_reducible assumption) | assumption) : 0 ≤ ji12)
                                    have c52b0 := eq_true (of_decide_eq_true (by first | (with_reducible assumption) | assumption) : ji12 ≤ (x1_1.length : Int))
                                    obtain ⟨y226, hy226⟩ : ∃ y_ : List Int, y_ = (x1_1.drop (ji12 : Int).toNat) := ⟨_, rfl⟩
                                    replace H : (impl_logPieces.l0 kj12 a0 y226 y223 ((ji12) == (x1_1.length : Int)) true) = some r := by first | (rw [hy226]; with_reducible exact H) | (have H2_ := (Option.bind_some _ _).symm.trans H; rw [hy226]; with_reducible exact H2_) | (have H2_ := (Option.bind_some _ _).symm.trans H; with_reducible exact H2_) | with_reducible exact H | (rw [hy226]; exact H) | exact H
                                    have Ny226 := Aside0.mk hy226
                                    clear hy226
                                    have H' := Aside0.mk H
                                    clear H
                                    have q53 : (ji12 : Int) ≤ ((x1_1.length : Int) : Int) := of_decide_eq_true (by first | (with_reducible assumption) | assumption)
                                    obtain ⟨i053, hi053, _, hsz53, _⟩ := info_parts info5
                                    have hroom53 : x1_1.length ≤ co17 := (Kd.V_reads' HO_1.out).2.1
                                    have hC53 : Kd.F (Kd.int .u8) _ _ Ao17 x1_1.length x1_1 := (Kd.V_at (base := w.heap.size) HO_1.out).2.2
                                    have hcut53 := cut_to (P := Try.prog) 22 5 .i64 Try.underlying22 hi053 Ao17 x1_1.length co17 ji12 (of_decide_eq_true (by first | (with_reducible assumption) | assumption)) q53 hroom53
                                    have hr53 := Kd.F_take (m := (ji12 : Int).toNat) hC53 (by omega)
                                    have hy53 : y201.length = (ji12 : Int).toNat := (by rw [Ny201.out, List.length_take]; omega)
                                    rw [← Ny201.out] at hr53
                                    rw [← hy53] at hcut53
                                    have HO205 := Aside0.mk (show Kd.V (Kd.int .u8) 5 _ w.heap.size _ (.slice Ao17 y201.length co17) y201 from Kd.V_mk (by omega) hr53)
                                    have HC205 := Aside0.mk (show y201.length ≤ co17 from by omega)
                                    clear hr53 hC53 hroom53 hi053 hsz53
                                    have KY53 := Aside0.mk hy53
                                    clear hy53
                                    replace q53 := eq_true q53
                                    go_wp2_with (first | ((with_reducible refine gate_callee (f := 107) rfl ?_); refine goesL_ (some 54) rfl rfl Try.func107 (by kernel_rfl) rfl #[.int .u8 4, .slice Ao17 y201.length co17] rfl (by (try simp only [List.map_toArray, List.map_cons, List.map_nil]); first | done | rfl | (simp only [List.length_drop, List.length_take]; rfl)) ?_; (with_reducible refine (impl_check.calls kj12 4 _ _ y201 t206 _ ?side1 ?side2 A45.out).mono ?_); (case side1 => repeat (first | exact (Kd.V_reads' HO205.out).2.2 | (with_reducible refine Kd.C_alloc ?_ _) | (with_reducible refine Kd.C_drewN ?_ _) | (with_reducible refine Kd.C_drew ?_))); (case side2 => exact (Kd.V_reads' HO205.out).2.1); rintro e w54 ⟨v207, rfl, ho0, hb⟩; refine ⟨_, rfl, ?_⟩; have n0_ := Aside0.mk (Kd.V_elder' (by (with_reducible repeat (first | apply Kd.V_alloc | apply Kd.V_drewN | apply Kd.V_drew)); exact HO_1.out) (Kd.R_base ho0) hb); have n1_ := Aside0.mk (Kd.R_elder' (by (with_reducible repeat (first | apply Kd.R_alloc | apply Kd.R_drewN | apply Kd.R_drew)); exact HO_5.out) (Kd.R_base ho0) hb); have n2_ := Aside0.mk (Kd.V_elder' (by (with_reducible repeat (first | apply Kd.V_alloc | apply Kd.V_drewN | apply Kd.V_drew)); exact HO205.out) (Kd.R_base ho0) hb); have n3_ := Aside0.mk (Kd.R_lower (Kd.R_new' (Kd.R_newM (M := fun k_ => (w.heap.size ≤ k_)) ho0 (below_size (by repeat (first | (with_reducible first | exact HB.out | apply below_alloc | apply pw_below_drewN | apply below_drew1) | exact HB.out))) (fun k_ h_ => h_)) (Kd.R_lt (by (with_reducible repeat (first | apply Kd.R_alloc | apply Kd.R_drewN | apply Kd.R_drew)); exact HO_5.out))) (below_size (by repeat (first | (with_reducible first | exact HB.out | apply below_alloc | apply pw_below_drewN | apply below_drew1) | exact HB.out)))); have n4_ := Aside0.mk (below_step (by repeat (first | (with_reducible first | exact HB.out | apply below_alloc | apply pw_below_drewN | apply below_drew1) | exact HB.out)) hb); clear HO_1; clear HO_5; clear HO205; clear HB; have HO_1 := n0_; have HO_5 := n1_; have HO205 := n2_; have HO208 := n3_; have HB := n4_; clear n0_ n1_ n2_ n3_ n4_; (try clear hb); (try clear hb2); (try clear hk); (try clear hi); (try clear ho0); obtain ⟨Ao56, co56, eo56⟩ := Kd.R_slice HO208.out; subst eo56) | ((with_reducible refine gate_builtin (b := .append) (xs := #[.tmp 49, .tmp 54]) rfl ?_); at_builtin; refine Kd.R_append_rows (Kd.int .u8) (w0 := w) w.heap.size rfl (.tmp 49) (.tmp 54) 22 5 (.int .u8 0) 1 rfl Try.underlying22 info5 rfl (by decide) (by omega) (.slice Ao16 y168.length co16) y168 t206 _ _ _ (fun k_ => (w.heap.size ≤ k_) ∧ some k_ ≠ (.slice Ao56 t206.length co56 : Value).ownBlock) (fun _ => False) rfl rfl ?aO ?aR (fun _ _ h => h) (fun _ h => h.elim) ?aF ?aB ?aS ?aL ?_; (case aR => repeat (first | exact (Kd.R_reads' HO208.out).2.2 | (with_reducible refine Kd.C_alloc ?_ _) | (with_reducible refine Kd.C_drewN ?_ _) | (with_reducible refine Kd.C_drew ?_))); (case aB => exact (by repeat (first | (with_reducible first | exact HB.out | apply below_alloc | apply pw_below_drewN | apply below_drew1) | exact HB.out))); (case aF => exact (fun k_ hk => ⟨(Nat.le_trans (below_size (by repeat (first | (with_reducible first | exact HB.out | apply below_alloc | apply pw_below_drewN | apply below_drew1) | exact HB.out))) hk), Kd.fresh' (Kd.R_lt (by (with_reducible repeat (first | apply Kd.R_alloc | apply Kd.R_drewN | apply Kd.R_drew)); exact HO208.out)) k_ hk⟩)); (case aO => exact (by (with_reducible repeat (first | apply Kd.R_alloc | apply Kd.R_drewN | apply Kd.R_drew)); exact HO_5.out)); (case aS => exact (below_size (by repeat (first | (with_reducible first | exact HB.out | apply below_alloc | apply pw_below_drewN | apply below_drew1) | exact HB.out)))); (case aL => have := LMc46.out; omega); intro v210 w55 ho hb hg hat; rw [← Ny209.out] at ho; have n0_ := Aside0.mk (Kd.V_afterv (ok := (fun k_ => (P1_ k_ ∨ w.heap.size ≤ k_) ∧ some k_ ≠ (.slice Ao56 t206.length co56 : Value).ownBlock)) (by (with_reducible repeat (first | apply Kd.V_alloc | apply Kd.V_drewN | apply Kd.V_drew)); exact Kd.V_mono HO_1.out (fun _ hk => ⟨⟨hk.1.1, hk.2⟩, hk.1.2⟩)) hg hat); have n1_ := Aside0.mk (Kd.V_afterv (ok := (fun k_ => (P1_ k_ ∨ w.heap.size ≤ k_) ∧ some k_ ≠ (.slice Ao56 t206.length co56 : Value).ownBlock)) (by (with_reducible repeat (first | apply Kd.V_alloc | apply Kd.V_drewN | apply Kd.V_drew)); exact Kd.V_mono HO205.out (fun _ hk => ⟨⟨hk.1.1, hk.2⟩, hk.1.2⟩)) hg hat); have n2_ := Aside0.mk (Kd.R_after (ok := (fun k_ => (w.heap.size ≤ k_))) (by (with_reducible repeat (first | apply Kd.R_alloc | apply Kd.R_drewN | apply Kd.R_drew)); exact Kd.R_mono HO208.out (fun _ hk => ⟨hk.1.1, hk.2⟩)) hg hat); have n3_ := Aside0.mk (hb); have n4_ := Aside0.mk (ho); clear HO_1; clear HO205; clear HO208; clear HB; clear HO_5; have HO_1 := n0_; have HO205 := n1_; have HO208 := n2_; have HB := n3_; have HO211 := n4_; clear n0_ n1_ n2_ n3_ n4_; clear ho hb hg hat) | ((with_reducible refine gate_dst (N := 59) rfl ?_); refine Kd.R_lit (Kd.int .u8) _ 5 ?hg (N := 59) ?hd (xs := ([(ji12) % 256, 4] : List Int)) (inner := [.int .u8 ((ji12) % 256), .int .u8 4]) (ok := fun _ => True) (okp := fun _ => True) ?hr ?hp (fun _ hk => hk) trivial (Below.refl _ _) (Nat.le_refl _) (by simp) ?_; (case hd => rfl); (case hg => rfl); (case hr => first | (go_simp; done) | (go_simp; rfl)); (case hp => exact (Reps.one (show Kd.M (Kd.int .u8) _ _ _ ((ji12) % 256) [.int .u8 ((ji12) % 256)] from rfl) (Reps.one (show Kd.M (Kd.int .u8) _ _ _ 4 [.int .u8 4] from rfl) (Reps.none _ _)))); intro v213 w57 ho58 hb hg_ hnew_; clear hg_ hnew_; (first | rw [← Ny212.out] at ho58 | (simp only [Int.reduceToNat] at ho58; rw [← Ny212.out] at ho58)); have n0_ := Aside0.mk (Kd.V_elder' (by (with_reducible repeat (first | apply Kd.V_alloc | apply Kd.V_drewN | apply Kd.V_drew)); exact HO_1.out) (Kd.R_base ho58) hb); have n1_ := Aside0.mk (Kd.V_elder' (by (with_reducible repeat (first | apply Kd.V_alloc | apply Kd.V_drewN | apply Kd.V_drew)); exact HO205.out) (Kd.R_base ho58) hb); have n2_ := Aside0.mk (Kd.R_elder' (by (with_reducible repeat (first | apply Kd.R_alloc | apply Kd.R_drewN | apply Kd.R_drew)); exact HO208.out) (Kd.R_base ho58) hb); have n3_ := Aside0.mk (Kd.R_elder' (by (with_reducible repeat (first | apply Kd.R_alloc | apply Kd.R_drewN | apply Kd.R_drew)); exact HO211.out) (Kd.R_base ho58) hb); have n4_ := Aside0.mk (Kd.R_lower (Kd.R_new' (Kd.R_new' (Kd.R_newM (M := fun k_ => (w.heap.size ≤ k_)) ho58 (below_size (by repeat (first | (with_reducible first | exact HB.out | apply below_alloc | apply pw_below_drewN | apply below_drew1) | exact HB.out))) (fun k_ h_ => h_)) (Kd.R_lt (by (with_reducible repeat (first | apply Kd.R_alloc | apply Kd.R_drewN | apply Kd.R_drew)); exact HO208.out))) (Kd.R_lt (by (with_reducible repeat (first | apply Kd.R_alloc | apply Kd.R_drewN | apply Kd.R_drew)); exact HO211.out))) (below_size (by repeat (first | (with_reducible first | exact HB.out | apply below_alloc | apply pw_below_drewN | apply below_drew1) | exact HB.out)))); have n5_ := Aside0.mk (below_step (by repeat (first | (with_reducible first | exact HB.out | apply below_alloc | apply pw_below_drewN | apply below_drew1) | exact HB.out)) hb); clear HO_1; clear HO205; clear HO208; clear HO211; clear HB; have HO_1 := n0_; have HO205 := n1_; have HO208 := n2_; have HO211 := n3_; have HO214 := n4_; have HB := n5_; clear n0_ n1_ n2_ n3_ n4_ n5_; clear hb ho58; obtain ⟨Ao60, co60, eo60⟩ := Kd.R_slice HO214.out; subst eo60) | ((with_reducible refine gate_builtin (b := .append) (xs := #[.tmp 55, .tmp 59]) rfl ?_); at_builtin; refine Kd.R_append_rows (Kd.int .u8) (w0 := w) w.heap.size rfl (.tmp 55) (.tmp 59) 22 5 (.int .u8 0) 1 rfl Try.underlying22 info5 rfl (by decide) (by omega) v210 y209 y212 _ _ _ (fun k_ => (w.heap.size ≤ k_) ∧ some k_ ≠ (.slice Ao56 t206.length co56 : Value).ownBlock ∧ some k_ ≠ (.slice Ao60 y212.length co60 : Value).ownBlock) (fun _ => False) rfl rfl ?aO ?aR (fun _ _ h => h) (fun _ h => h.elim) ?aF ?aB ?aS ?aL ?_; (case aR => repeat (first | exact (Kd.R_reads' HO214.out).2.2 | (with_reducible refine Kd.C_alloc ?_ _) | (with_reducible refine Kd.C_drewN ?_ _) | (with_reducible refine Kd.C_drew ?_))); (case aB => exact (by repeat (first | (with_reducible first | exact HB.out | apply below_alloc | apply pw_below_drewN | apply below_drew1) | exact HB.out))); (case aF => exact (fun k_ hk => ⟨(Nat.le_trans (below_size (by repeat (first | (with_reducible first | exact HB.out | apply below_alloc | apply pw_below_drewN | apply below_drew1) | exact HB.out))) hk), Kd.fresh' (Kd.R_lt (by (with_reducible repeat (first | apply Kd.R_alloc | apply Kd.R_drewN | apply Kd.R_drew)); exact HO208.out)) k_ hk, Kd.fresh' (Kd.R_lt (by (with_reducible repeat (first | apply Kd.R_alloc | apply Kd.R_drewN | apply Kd.R_drew)); exact HO214.out)) k_ hk⟩)); (case aO => exact (by (with_reducible repeat (first | apply Kd.R_alloc | apply Kd.R_drewN | apply Kd.R_drew)); exact Kd.R_mono HO211.out (fun _ hk => ⟨hk.1.1, ⟨hk.1.2, hk.2⟩⟩))); (case aS => exact (below_size (by repeat (first | (with_reducible first | exact HB.out | apply below_alloc | apply pw_below_drewN | apply below_drew1) | exact HB.out)))); (case aL => have := LMc47.out; omega); intro v216 w59 ho hb hg hat; rw [← Ny215.out] at ho; have n0_ := Aside0.mk (Kd.V_afterv (ok := (fun k_ => (P1_ k_ ∨ w.heap.size ≤ k_) ∧ some k_ ≠ (.slice Ao56 t206.length co56 : Value).ownBlock ∧ some k_ ≠ (.slice Ao60 y212.length co60 : Value).ownBlock)) (by (with_reducible repeat (first | apply Kd.V_alloc | apply Kd.V_drewN | apply Kd.V_drew)); exact Kd.V_mono HO_1.out (fun _ hk => ⟨⟨hk.1.1.1, ⟨hk.1.1.2, hk.2⟩⟩, hk.1.2⟩)) hg hat); have n1_ := Aside0.mk (Kd.V_afterv (ok := (fun k_ => (P1_ k_ ∨ w.heap.size ≤ k_) ∧ some k_ ≠ (.slice Ao56 t206.length co56 : Value).ownBlock ∧ some k_ ≠ (.slice Ao60 y212.length co60 : Value).ownBlock)) (by (with_reducible repeat (first | apply Kd.V_alloc | apply Kd.V_drewN | apply Kd.V_drew)); exact Kd.V_mono HO205.out (fun _ hk => ⟨⟨hk.1.1.1, ⟨hk.1.1.2, hk.2⟩⟩, hk.1.2⟩)) hg hat); have n2_ := Aside0.mk (Kd.R_after (ok := (fun k_ => (w.heap.size ≤ k_) ∧ some k_ ≠ (.slice Ao60 y212.length co60 : Value).ownBlock)) (by (with_reducible repeat (first | apply Kd.R_alloc | apply Kd.R_drewN | apply Kd.R_drew)); exact Kd.R_mono HO208.out (fun _ hk => ⟨⟨hk.1.1, hk.2⟩, hk.1.2⟩)) hg hat); have n3_ := Aside0.mk (Kd.R_after (ok := (fun k_ => (w.heap.size ≤ k_) ∧ some k_ ≠ (.slice Ao56 t206.length co56 : Value).ownBlock)) (by (with_reducible repeat (first | apply Kd.R_alloc | apply Kd.R_drewN | apply Kd.R_drew)); exact Kd.R_mono HO214.out (fun _ hk => ⟨⟨hk.1.1.1, hk.1.2⟩, hk.2⟩)) hg hat); have n4_ := Aside0.mk (hb); have n5_ := Aside0.mk (ho); clear HO_1; clear HO205; clear HO208; clear HO214; clear HB; clear HO211; have HO_1 := n0_; have HO205 := n1_; have HO208 := n2_; have HO214 := n3_; have HB := n4_; have HO217 := n5_; clear n0_ n1_ n2_ n3_ n4_ n5_; clear ho hb hg hat; have q61 : (ji12 : Int) ≤ ((x1_1.length : Int) : Int) := of_decide_eq_true (by first | (with_reducible assumption) | assumption); obtain ⟨i061, hi061, _, hsz61, _⟩ := info_parts info5; have hroom61 : x1_1.length ≤ co17 := (Kd.V_reads' HO_1.out).2.1; have hC61 : Kd.F (Kd.int .u8) _ _ Ao17 x1_1.length x1_1 := (Kd.V_at (base := w.heap.size) HO_1.out).2.2; have hcut61 := cut_to (P := Try.prog) 22 5 .i64 Try.underlying22 hi061 Ao17 x1_1.length co17 ji12 (of_decide_eq_true (by first | (with_reducible assumption) | assumption)) q61 hroom61; have hr61 := Kd.F_take (m := (ji12 : Int).toNat) hC61 (by omega); have hy61 : y218.length = (ji12 : Int).toNat := (by rw [Ny218.out, List.length_take]; omega); rw [← Ny218.out] at hr61; rw [← hy61] at hcut61; have HO222 := Aside0.mk (show Kd.V (Kd.int .u8) 5 _ w.heap.size _ (.slice Ao17 y218.length co17) y218 from Kd.V_mk (by omega) hr61); have HC222 := Aside0.mk (show y218.length ≤ co17 from by omega); clear hr61 hC61 hroom61 hi061 hsz61; have KY61 := Aside0.mk hy61; clear hy61; replace q61 := eq_true q61) | ((with_reducible refine gate_builtin (b := .append) (xs := #[.tmp 61, .tmp 64]) rfl ?_); at_builtin; refine Kd.R_append_rows (Kd.int .u8) (w0 := w) w.heap.size rfl (.tmp 61) (.tmp 64) 22 5 (.int .u8 0) 1 rfl Try.underlying22 info5 rfl (by decide) (by omega) v216 y215 y218 _ _ _ (fun k_ => (w.heap.size ≤ k_) ∧ some k_ ≠ (.slice Ao56 t206.length co56 : Value).ownBlock ∧ some k_ ≠ (.slice Ao60 y212.length co60 : Value).ownBlock) (fun _ => False) rfl rfl ?aO ?aR (fun _ _ h => h) (fun _ h => h.elim) ?aF ?aB ?aS ?aL ?_; (case aR => repeat (first | exact (Kd.V_reads' HO222.out).2.2 | exact (by have z_ := (Kd.V_reads' HO222.out).2.2; rw [Ey218.out] at z_ ⊢; exact z_) | (with_reducible refine Kd.C_alloc ?_ _) | (with_reducible refine Kd.C_drewN ?_ _) | (with_reducible refine Kd.C_drew ?_))); (case aB => exact (by repeat (first | (with_reducible first | exact HB.out | apply below_alloc | apply pw_below_drewN | apply below_drew1) | exact HB.out))); (case aF => exact (fun k_ hk => ⟨(Nat.le_trans (below_size (by repeat (first | (with_reducible first | exact HB.out | apply below_alloc | apply pw_below_drewN | apply below_drew1) | exact HB.out))) hk), Kd.fresh' (Kd.R_lt (by (with_reducible repeat (first | apply Kd.R_alloc | apply Kd.R_drewN | apply Kd.R_drew)); exact HO208.out)) k_ hk, Kd.fresh' (Kd.R_lt (by (with_reducible repeat (first | apply Kd.R_alloc | apply Kd.R_drewN | apply Kd.R_drew)); exact HO214.out)) k_ hk⟩)); (case aO => exact (by (with_reducible repeat (first | apply Kd.R_alloc | apply Kd.R_drewN | apply Kd.R_drew)); exact HO217.out)); (case aS => exact (below_size (by repeat (first | (with_reducible first | exact HB.out | apply below_alloc | apply pw_below_drewN | apply below_drew1) | exact HB.out)))); (case aL => have := LMc50.out; have := congrArg List.length Ey218.out; omega); intro v224 w62 ho hb hg hat; rw [← Ny223.out] at ho; have n0_ := Aside0.mk (Kd.V_afterv (ok := (fun k_ => (P1_ k_ ∨ w.heap.size ≤ k_) ∧ some k_ ≠ (.slice Ao56 t206.length co56 : Value).ownBlock ∧ some k_ ≠ (.slice Ao60 y212.length co60 : Value).ownBlock)) (by (with_reducible repeat (first | apply Kd.V_alloc | apply Kd.V_drewN | apply Kd.V_drew)); exact HO_1.out) hg hat); have n1_ := Aside0.mk (Kd.V_afterv (ok := (fun k_ => (P1_ k_ ∨ w.heap.size ≤ k_) ∧ some k_ ≠ (.slice Ao56 t206.length co56 : Value).ownBlock ∧ some k_ ≠ (.slice Ao60 y212.length co60 : Value).ownBlock)) (by (with_reducible repeat (first | apply Kd.V_alloc | apply Kd.V_drewN | apply Kd.V_drew)); exact HO205.out) hg hat); have n2_ := Aside0.mk (Kd.R_after (ok := (fun k_ => (w.heap.size ≤ k_) ∧ some k_ ≠ (.slice Ao60 y212.length co60 : Value).ownBlock)) (by (with_reducible repeat (first | apply Kd.R_alloc | apply Kd.R_drewN | apply Kd.R_drew)); exact HO208.out) hg hat); have n3_ := Aside0.mk (Kd.R_after (ok := (fun k_ => (w.heap.size ≤ k_) ∧ some k_ ≠ (.slice Ao56 t206.length co56 : Value).ownBlock)) (by (with_reducible repeat (first | apply Kd.R_alloc | apply Kd.R_drewN | apply Kd.R_drew)); exact HO214.out) hg hat); have n4_ := Aside0.mk (Kd.V_afterv (ok := (fun k_ => (P1_ k_ ∨ w.heap.size ≤ k_) ∧ some k_ ≠ (.slice Ao56 t206.length co56 : Value).ownBlock ∧ some k_ ≠ (.slice Ao60 y212.length co60 : Value).ownBlock)) (by (with_reducible repeat (first | apply Kd.V_alloc | apply Kd.V_drewN | apply Kd.V_drew)); exact HO222.out) hg hat); have n5_ := Aside0.mk (hb); have n6_ := Aside0.mk (ho); clear HO_1; clear HO205; clear HO208; clear HO214; clear HO222; clear HB; clear HO217; have HO_1 := n0_; have HO205 := n1_; have HO208 := n2_; have HO214 := n3_; have HO222 := n4_; have HB := n5_; have HO225 := n6_; clear n0_ n1_ n2_ n3_ n4_ n5_ n6_; clear ho hb hg hat; have q63 : (ji12 : Int) ≤ ((x1_1.length : Int) : Int) := of_decide_eq_true (by first | (with_reducible assumption) | assumption); obtain ⟨i063, hi063, _, hsz63, _⟩ := info_parts info5; have hroom63 : x1_1.length ≤ co17 := (Kd.V_reads' HO_1.out).2.1; have hC63 : Kd.F (Kd.int .u8) _ _ Ao17 x1_1.length x1_1 := (Kd.V_at (base := w.heap.size) HO_1.out).2.2; have q063 : (0 : Int) ≤ (ji12 : Int) := of_decide_eq_true (by first | (with_reducible assumption) | assumption); have hcut63 := cut_from (P := Try.prog) 22 5 .i64 Try.underlying22 hi063 1 hsz63 Ao17 x1_1.length co17 ji12 q063 q63; have hr63 := Kd.F_cut (m := (ji12 : Int).toNat) (c := co17) hC63 (by omega) hroom63; obtain ⟨A63, hA63⟩ : ∃ A1, A1 = (if co17 = (ji12 : Int).toNat then Ao17 else (Ao17 : Option Addr).map (·.add ((ji12 : Int).toNat * 1))) := ⟨_, rfl⟩; obtain ⟨c63, hc63⟩ : ∃ c1, c1 = co17 - (ji12 : Int).toNat := ⟨_, rfl⟩; have hy63 : y226.length = x1_1.length - (ji12 : Int).toNat := (by rw [Ny226.out, List.length_drop] <;> omega); rw [show (x1_1).drop (ji12 : Int).toNat = y226 from Ny226.out.symm] at hr63; replace hr63 : Kd.F (Kd.int .u8) _ _ A63 y226.length y226 := (by rw [hA63]; exact hr63); rw [← hy63, ← hA63, ← hc63] at hcut63; have HO230 := Aside0.mk (show Kd.V (Kd.int .u8) 5 _ w.heap.size _ (.slice A63 y226.length c63) y226 from Kd.V_mk (by rw [hy63, hc63]; exact Nat.sub_le_sub_right hroom63 _) hr63); have HC230 := Aside0.mk (show y226.length ≤ c63 from by rw [hy63, hc63]; exact Nat.sub_le_sub_right hroom63 _); clear hr63 hC63 hroom63 hi063 hsz63 hc63; have KY63 := Aside0.mk hy63; have KA63 := Aside0.mk hA63; clear hy63 hA63; replace q63 := eq_true q63))
                                    go_roundg kj12
                                    case measure => have := HK1.out; have := HJ12.out; omega
                                    case rel => exact ⟨(y226), (y223), (((ji12) == (x1_1.length : Int))), (true), (by first | rfl | (simp; done) | (first | exact congrArg Value.bool (by assumption) | exact congrArg Value.bool (Eq.symm (by assumption)) | (simp only [← hji12] <;> (first | rfl | (simp; done)))) | (simp [*]; done)), (by first | rfl | (simp; done) | (simp [*]; done)), H', ⟨by have := HK1.out; have := HJ12.out; omega⟩, ⟨by (with_reducible repeat (first | apply Kd.V_alloc | apply Kd.V_drewN | apply Kd.V_drew)); exact Kd.V_mono HO230.out (fun _ hk => ⟨hk.1.1, hk.2⟩)⟩, ⟨by (with_reducible repeat (first | apply Kd.R_alloc | apply Kd.R_drewN | apply Kd.R_drew)); exact Kd.R_mono HO225.out (fun _ hk => hk.1)⟩, ⟨by repeat (first | (with_reducible first | exact HB.out | apply below_alloc | apply pw_below_drewN | apply below_drew1) | exact HB.out)⟩⟩
                                  · rw [if_neg c50] at H
                                    exact absurd H (by simp)
                                · rw [if_neg c47] at H
                                  exact absurd H (by simp)
                              · rw [if_neg c46] at H
                                exact absurd H (by simp)
                            · rw [if_neg c44] at H
                              exact absurd H (by simp)
                          · rw [if_neg c43] at H
                            exact absurd H (by simp)
                        · rw [if_neg c42] at H
                          have c42b0 : ((ji12) == (x1_1.length : Int)) = false := by simpa using c42
                          (try (have c42b1 : decide ((ji12) = (x1_1.length : Int)) = false := by simpa using c42))
                          (try (have c42b2 : ((ji12) == (x1_1.length : Int)) = false := by simpa using c42))
                          (try (have c42b3 : ¬ ((ji12) = (x1_1.length : Int)) := by simpa using c42))
                          clear c42
                          by_cases c64 : 0 ≤ ji12
                          · rw [if_pos c64] at H
                            have c64b0 := eq_true c64
                            have c64b1 : decide (0 ≤ ji12) = true := decide_eq_true c64
                            clear c64
                            by_cases c65 : ji12 ≤ (x1_1.length : Int)
                            · rw [if_pos c65] at H
                              have c65b0 := eq_true c65
                              have c65b1 : decide (ji12 ≤ (x1_1.length : Int)) = true := decide_eq_true c65
                              clear c65
                              obtain ⟨y231, hy231⟩ : ∃ y_ : List Int, y_ = (x1_1.take (ji12 : Int).toNat) := ⟨_, rfl⟩
                              replace H : ((impl_check.f kj12 3 y231).bind fun t236 => (if y168.length + t236.length < 140737488355328 then ((some (y168 ++ t236 : List Int)).bind fun y239 => ((some (([(ji12) % 256, 3] : List Int) : List Int)).bind fun y242 => (if y239.length + y242.length < 140737488355328 then ((some (y239 ++ y242 : List Int)).bind fun y245 => ((some (x1_1.take (ji12 : Int).toNat : List Int)).bind fun y248 => (if y245.length + y248.length < 140737488355328 then (impl_logPieces.l0 kj12 a0 (x1_1.drop (ji12 : Int).toNat) (y245 ++ y248) ((ji12) == (x1_1.length : Int)) true) else (none)))) else (none)))) else (none))) = some r := by first | (rw [hy231]; with_reducible exact H) | (have H2_ := (Option.bind_some _ _).symm.trans H; rw [hy231]; with_reducible exact H2_) | (have H2_ := (Option.bind_some _ _).symm.trans H; with_reducible exact H2_) | with_reducible exact H | (rw [hy231]; exact H) | exact H
                              have Ny231 := Aside0.mk hy231
                              clear hy231
                              replace H := Option.bind_eq_some_iff.mp H
                              obtain ⟨t236, A660, H⟩ := H
                              replace H : (if y168.length + t236.length < 140737488355328 then ((some (y168 ++ t236 : List Int)).bind fun y239 => ((some (([(ji12) % 256, 3] : List Int) : List Int)).bind fun y242 => (if y239.length + y242.length < 140737488355328 then ((some (y239 ++ y242 : List Int)).bind fun y245 => ((some (x1_1.take (ji12 : Int).toNat : List Int)).bind fun y248 => (if y245.length + y248.length < 140737488355328 then (impl_logPieces.l0 kj12 a0 (x1_1.drop (ji12 : Int).toNat) (y245 ++ y248) ((ji12) == (x1_1.length : Int)) true) else (none)))) else (none)))) else (none)) = some r := H
                              have A66 := Aside0.mk A660
                              clear A660
                              by_cases c67 : y168.length + t236.length < 140737488355328
                              · rw [if_pos c67] at H
                                have LMc67 := Aside0.mk c67
                                clear c67
                                obtain ⟨y239, hy239⟩ : ∃ y_ : List Int, y_ = (y168 ++ t236) := ⟨_, rfl⟩
                                replace H : ((some (([(ji12) % 256, 3] : List Int) : List Int)).bind fun y242 => (if y239.length + y242.length < 140737488355328 then ((some (y239 ++ y242 : List Int)).bind fun y245 => ((some (x1_1.take (ji12 : Int).toNat : List Int)).bind fun y248 => (if y245.length + y248.length < 140737488355328 then (impl_logPieces.l0 kj12 a0 (x1_1.drop (ji12 : Int).toNat) (y245 ++ y248) ((ji12) == (x1_1.length : Int)) true) else (none)))) else (none))) = some r := by first | (rw [hy239]; with_reducible exact H) | (have H2_ := (Option.bind_some _ _).symm.trans H; rw [hy239]; with_reducible exact H2_) | (have H2_ := (Option.bind_some _ _).symm.trans H; with_reducible exact H2_) | with_reducible exact H | (rw [hy239]; exact H) | exact H
                                have Ny239 := Aside0.mk hy239
                                clear hy239
                                obtain ⟨y242, hy242⟩ : ∃ y_ : List Int, y_ = (([(ji12) % 256, 3] : List Int)) := ⟨_, rfl⟩
                                replace H : (if y239.length + y242.length < 140737488355328 then ((some (y239 ++ y242 : List Int)).bind fun y245 => ((some (x1_1.take (ji12 : Int).toNat : List Int)).bind fun y248 => (if y245.length + y248.length < 140737488355328 then (impl_logPieces.l0 kj12 a0 (x1_1.drop (ji12 : Int).toNat) (y245 ++ y248) ((ji12) == (x1_1.length : Int)) true) else (none)))) else (none)) = some r := by first | (rw [hy242]; with_reducible exact H) | (have H2_ := (Option.bind_some _ _).symm.trans H; rw [hy242]; with_reducible exact H2_) | (have H2_ := (Option.bind_some _ _).symm.trans H; with_reducible exact H2_) | with_reducible exact H | (rw [hy242]; exact H) | exact H
                                have Ny242 := Aside0.mk hy242
                                clear hy242
                                by_cases c68 : y239.length + y242.length < 140737488355328
                                · rw [if_pos c68] at H
                                  have LMc68 := Aside0.mk c68
                                  clear c68
                                  obtain ⟨y245, hy245⟩ : ∃ y_ : List Int, y_ = (y239 ++ y242) := ⟨_, rfl⟩
                                  replace H : ((some (x1_1.take (ji12 : Int).toNat : List Int)).bind fun y248 => (if y245.length + y248.length < 140737488355328 then (impl_logPieces.l0 kj12 a0 (x1_1.drop (ji12 : Int).toNat) (y245 ++ y248) ((ji12) == (x1_1.length : Int)) true) else (none))) = some r := by first | (rw [hy245]; with_reducible exact H) | (have H2_ := (Option.bind_some _ _).symm.trans H; rw [hy245]; with_reducible exact H2_) | (have H2_ := (Option.bind_some _ _).symm.trans H; with_reducible exact H2_) | with_reducible exact H | (rw [hy245]; exact H) | exact H
                                  have Ny245 := Aside0.mk hy245
                                  clear hy245
                                  have c69b0 := eq_true (of_decide_eq_true (by first | (with_reducible assumption) | assumption) : 0 ≤ ji12)
                                  have c70b0 := eq_true (of_decide_eq_true (by first | (with_reducible assumption) | assumption) : ji12 ≤ (x1_1.length : Int))
                                  obtain ⟨y248, hy248⟩ : ∃ y_ : List Int, y_ = (x1_1.take (ji12 : Int).toNat) := ⟨_, rfl⟩
                                  replace H : (if y245.length + y248.length < 140737488355328 then (impl_logPieces.l0 kj12 a0 (x1_1.drop (ji12 : Int).toNat) (y245 ++ y248) ((ji12) == (x1_1.length : Int)) true) else (none)) = some r := by first | (rw [hy248]; with_reducible exact H) | (have H2_ := (Option.bind_some _ _).symm.trans H; rw [hy248]; with_reducible exact H2_) | (have H2_ := (Option.bind_some _ _).symm.trans H; with_reducible exact H2_) | with_reducible exact H | (rw [hy248]; exact H) | exact H
                                  have Ny248 := Aside0.mk hy248
                                  have Ey248 := Aside0.mk (show y248 = y231 from hy248.trans Ny231.out.symm)
                                  clear hy248
                                  by_cases c71 : y245.length + y248.length < 140737488355328
                                  · rw [if_pos c71] at H
                                    have LMc71 := Aside0.mk c71
                                    clear c71
                                    obtain ⟨y253, hy253⟩ : ∃ y_ : List Int, y_ = (y245 ++ y248) := ⟨_, rfl⟩
                                    replace H : (impl_logPieces.l0 kj12 a0 (x1_1.drop (ji12 : Int).toNat) y253 ((ji12) == (x1_1.length : Int)) true) = some r := by first | (rw [hy253]; with_reducible exact H) | (have H2_ := (Option.bind_some _ _).symm.trans H; rw [hy253]; with_reducible exact H2_) | (have H2_ := (Option.bind_some _ _).symm.trans H; with_reducible exact H2_) | with_reducible exact H | (rw [hy253]; exact H) | exact H
                                    have Ny253 := Aside0.mk hy253
                                    clear hy253
                                    have c72b0 := eq_true (of_decide_eq_true (by first | (with_reducible assumption) | assumption) : 0 ≤ ji12)
                                    have c73b0 := eq_true (of_decide_eq_true (by first | (with_reducible assumption) | assumption) : ji12 ≤ (x1_1.length : Int))
                                    obtain ⟨y256, hy256⟩ : ∃ y_ : List Int, y_ = (x1_1.drop (ji12 : Int).toNat) := ⟨_, rfl⟩
                                    replace H : (impl_logPieces.l0 kj12 a0 y256 y253 ((ji12) == (x1_1.length : Int)) true) = some r := by first | (rw [hy256]; with_reducible exact H) | (have H2_ := (Option.bind_some _ _).symm.trans H; rw [hy256]; with_reducible exact H2_) | (have H2_ := (Option.bind_some _ _).symm.trans H; with_reducible exact H2_) | with_reducible exact H | (rw [hy256]; exact H) | exact H
                                    have Ny256 := Aside0.mk hy256
                                    clear hy256
                                    have H' := Aside0.mk H
                                    clear H
                                    have q74 : (ji12 : Int) ≤ ((x1_1.length : Int) : Int) := of_decide_eq_true (by first | (with_reducible assumption) | assumption)
                                    obtain ⟨i074, hi074, _, hsz74, _⟩ := info_parts info5
                                    have hroom74 : x1_1.length ≤ co17 := (Kd.V_reads' HO_1.out).2.1
                                    have hC74 : Kd.F (Kd.int .u8) _ _ Ao17 x1_1.length x1_1 := (Kd.V_at (base := w.heap.size) HO_1.out).2.2
                                    have hcut74 := cut_to (P := Try.prog) 22 5 .i64 Try.underlying22 hi074 Ao17 x1_1.length co17 ji12 (of_decide_eq_true (by first | (with_reducible assumption) | assumption)) q74 hroom74
                                    have hr74 := Kd.F_take (m := (ji12 : Int).toNat) hC74 (by omega)
                                    have hy74 : y231.length = (ji12 : Int).toNat := (by rw [Ny231.out, List.length_take]; omega)
                                    rw [← Ny231.out] at hr74
                                    rw [← hy74] at hcut74
                                    have HO235 := Aside0.mk (show Kd.V (Kd.int .u8) 5 _ w.heap.size _ (.slice Ao17 y231.length co17) y231 from Kd.V_mk (by omega) hr74)
                                    have HC235 := Aside0.mk (show y231.length ≤ co17 from by omega)
                                    clear hr74 hC74 hroom74 hi074 hsz74
                                    have KY74 := Aside0.mk hy74
                                    clear hy74
                                    replace q74 := eq_true q74
                                    go_wp2_with (first | ((with_reducible refine gate_callee (f := 107) rfl ?_); refine goesL_ (some 54) rfl rfl Try.func107 (by kernel_rfl) rfl #[.int .u8 3, .slice Ao17 y231.length co17] rfl (by (try simp only [List.map_toArray, List.map_cons, List.map_nil]); first | done | rfl | (simp only [List.length_drop, List.length_take]; rfl)) ?_; (with_reducible refine (impl_check.calls kj12 3 _ _ y231 t236 _ ?side1 ?side2 A66.out).mono ?_); (case side1 => repeat (first | exact (Kd.V_reads' HO235.out).2.2 | (with_reducible refine Kd.C_alloc ?_ _) | (with_reducible refine Kd.C_drewN ?_ _) | (with_reducible refine Kd.C_drew ?_))); (case side2 => exact (Kd.V_reads' HO235.out).2.1); rintro e w75 ⟨v237, rfl, ho0, hb⟩; refine ⟨_, rfl, ?_⟩; have n0_ := Aside0.mk (Kd.V_elder' (by (with_reducible repeat (first | apply Kd.V_alloc | apply Kd.V_drewN | apply Kd.V_drew)); exact HO_1.out) (Kd.R_base ho0) hb); have n1_ := Aside0.mk (Kd.R_elder' (by (with_reducible repeat (first | apply Kd.R_alloc | apply Kd.R_drewN | apply Kd.R_drew)); exact HO_5.out) (Kd.R_base ho0) hb); have n2_ := Aside0.mk (Kd.V_elder' (by (with_reducible repeat (first | apply Kd.V_alloc | apply Kd.V_drewN | apply Kd.V_drew)); exact HO235.out) (Kd.R_base ho0) hb); have n3_ := Aside0.mk (Kd.R_lower (Kd.R_new' (Kd.R_newM (M := fun k_ => (w.heap.size ≤ k_)) ho0 (below_size (by repeat (first | (with_reducible first | exact HB.out | apply below_alloc | apply pw_below_drewN | apply below_drew1) | exact HB.out))) (fun k_ h_ => h_)) (Kd.R_lt (by (with_reducible repeat (first | apply Kd.R_alloc | apply Kd.R_drewN | apply Kd.R_drew)); exact HO_5.out))) (below_size (by repeat (first | (with_reducible first | exact HB.out | apply below_alloc | apply pw_below_drewN | apply below_drew1) | exact HB.out)))); have n4_ := Aside0.mk (below_step (by repeat (first | (with_reducible first | exact HB.out | apply below_alloc | apply pw_below_drewN | apply below_drew1) | exact HB.out)) hb); clear HO_1; clear HO_5; clear HO235; clear HB; have HO_1 := n0_; have HO_5 := n1_; have HO235 := n2_; have HO238 := n3_; have HB := n4_; clear n0_ n1_ n2_ n3_ n4_; (try clear hb); (try clear hb2); (try clear hk); (try clear hi); (try clear ho0); obtain ⟨Ao77, co77, eo77⟩ := Kd.R_slice HO238.out; subst eo77) | ((with_reducible refine gate_builtin (b := .append) (xs := #[.tmp 49, .tmp 54]) rfl ?_); at_builtin; refine Kd.R_append_rows (Kd.int .u8) (w0 := w) w.heap.size rfl (.tmp 49) (.tmp 54) 22 5 (.int .u8 0) 1 rfl Try.underlying22 info5 rfl (by decide) (by omega) (.slice Ao16 y168.length co16) y168 t236 _ _ _ (fun k_ => (w.heap.size ≤ k_) ∧ some k_ ≠ (.slice Ao77 t236.length co77 : Value).ownBlock) (fun _ => False) rfl rfl ?aO ?aR (fun _ _ h => h) (fun _ h => h.elim) ?aF ?aB ?aS ?aL ?_; (case aR => repeat (first | exact (Kd.R_reads' HO238.out).2.2 | (with_reducible refine Kd.C_alloc ?_ _) | (with_reducible refine Kd.C_drewN ?_ _) | (with_reducible refine Kd.C_drew ?_))); (case aB => exact (by repeat (first | (with_reducible first | exact HB.out | apply below_alloc | apply pw_below_drewN | apply below_drew1) | exact HB.out))); (case aF => exact (fun k_ hk => ⟨(Nat.le_trans (below_size (by repeat (first | (with_reducible first | exact HB.out | apply below_alloc | apply pw_below_drewN | apply below_drew1) | exact HB.out))) hk), Kd.fresh' (Kd.R_lt (by (with_reducible repeat (first | apply Kd.R_alloc | apply Kd.R_drewN | apply Kd.R_drew)); exact HO238.out)) k_ hk⟩)); (case aO => exact (by (with_reducible repeat (first | apply Kd.R_alloc | apply Kd.R_drewN | apply Kd.R_drew)); exact HO_5.out)); (case aS => exact (below_size (by repeat (first | (with_reducible first | exact HB.out | apply below_alloc | apply pw_below_drewN | apply below_drew1) | exact HB.out)))); (case aL => have := LMc67.out; omega); intro v240 w76 ho hb hg hat; rw [← Ny239.out] at ho; have n0_ := Aside0.mk (Kd.V_afterv (ok := (fun k_ => (P1_ k_ ∨ w.heap.size ≤ k_) ∧ some k_ ≠ (.slice Ao77 t236.length co77 : Value).ownBlock)) (by (with_reducible repeat (first | apply Kd.V_alloc | apply Kd.V_drewN | apply Kd.V_drew)); exact Kd.V_mono HO_1.out (fun _ hk => ⟨⟨hk.1.1, hk.2⟩, hk.1.2⟩)) hg hat); have n1_ := Aside0.mk (Kd.V_afterv (ok := (fun k_ => (P1_ k_ ∨ w.heap.size ≤ k_) ∧ some k_ ≠ (.slice Ao77 t236.length co77 : Value).ownBlock)) (by (with_reducible repeat (first | apply Kd.V_alloc | apply Kd.V_drewN | apply Kd.V_drew)); exact Kd.V_mono HO235.out (fun _ hk => ⟨⟨hk.1.1, hk.2⟩, hk.1.2⟩)) hg hat); have n2_ := Aside0.mk (Kd.R_after (ok := (fun k_ => (w.heap.size ≤ k_))) (by (with_reducible repeat (first | apply Kd.R_alloc | apply Kd.R_drewN | apply Kd.R_drew)); exact Kd.R_mono HO238.out (fun _ hk => ⟨hk.1.1, hk.2⟩)) hg hat); have n3_ := Aside0.mk (hb); have n4_ := Aside0.mk (ho); clear HO_1; clear HO235; clear HO238; clear HB; clear HO_5; have HO_1 := n0_; have HO235 := n1_; have HO238 := n2_; have HB := n3_; have HO241 := n4_; clear n0_ n1_ n2_ n3_ n4_; clear ho hb hg hat) | ((with_reducible refine gate_dst (N := 59) rfl ?_); refine Kd.R_lit (Kd.int .u8) _ 5 ?hg (N := 59) ?hd (xs := ([(ji12) % 256, 3] : List Int)) (inner := [.int .u8 ((ji12) % 256), .int .u8 3]) (ok := fun _ => True) (okp := fun _ => True) ?hr ?hp (fun _ hk => hk) trivial (Below.refl _ _) (Nat.le_refl _) (by simp) ?_; (case hd => rfl); (case hg => rfl); (case hr => first | (go_simp; done) | (go_simp; rfl)); (case hp => exact (Reps.one (show Kd.M (Kd.int .u8) _ _ _ ((ji12) % 256) [.int .u8 ((ji12) % 256)] from rfl) (Reps.one (show Kd.M (Kd.int .u8) _ _ _ 3 [.int .u8 3] from rfl) (Reps.none _ _)))); intro v243 w78 ho79 hb hg_ hnew_; clear hg_ hnew_; (first | rw [← Ny242.out] at ho79 | (simp only [Int.reduceToNat] at ho79; rw [← Ny242.out] at ho79)); have n0_ := Aside0.mk (Kd.V_elder' (by (with_reducible repeat (first | apply Kd.V_alloc | apply Kd.V_drewN | apply Kd.V_drew)); exact HO_1.out) (Kd.R_base ho79) hb); have n1_ := Aside0.mk (Kd.V_elder' (by (with_reducible repeat (first | apply Kd.V_alloc | apply Kd.V_drewN | apply Kd.V_drew)); exact HO235.out) (Kd.R_base ho79) hb); have n2_ := Aside0.mk (Kd.R_elder' (by (with_reducible repeat (first | apply Kd.R_alloc | apply Kd.R_drewN | apply Kd.R_drew)); exact HO238.out) (Kd.R_base ho79) hb); have n3_ := Aside0.mk (Kd.R_elder' (by (with_reducible repeat (first | apply Kd.R_alloc | apply Kd.R_drewN | apply Kd.R_drew)); exact HO241.out) (Kd.R_base ho79) hb); have n4_ := Aside0.mk (Kd.R_lower (Kd.R_new' (Kd.R_new' (Kd.R_newM (M := fun k_ => (w.heap.size ≤ k_)) ho79 (below_size (by repeat (first | (with_reducible first | exact HB.out | apply below_alloc | apply pw_below_drewN | apply below_drew1) | exact HB.out))) (fun k_ h_ => h_)) (Kd.R_lt (by (with_reducible repeat (first | apply Kd.R_alloc | apply Kd.R_drewN | apply Kd.R_drew)); exact HO238.out))) (Kd.R_lt (by (with_reducible repeat (first | apply Kd.R_alloc | apply Kd.R_drewN | apply Kd.R_drew)); exact HO241.out))) (below_size (by repeat (first | (with_reducible first | exact HB.out | apply below_alloc | apply pw_below_drewN | apply below_drew1) | exact HB.out)))); have n5_ := Aside0.mk (below_step (by repeat (first | (with_reducible first | exact HB.out | apply below_alloc | apply pw_below_drewN | apply below_drew1) | exact HB.out)) hb); clear HO_1; clear HO235; clear HO238; clear HO241; clear HB; have HO_1 := n0_; have HO235 := n1_; have HO238 := n2_; have HO241 := n3_; have HO244 := n4_; have HB := n5_; clear n0_ n1_ n2_ n3_ n4_ n5_; clear hb ho79; obtain ⟨Ao81, co81, eo81⟩ := Kd.R_slice HO244.out; subst eo81) | ((with_reducible refine gate_builtin (b := .append) (xs := #[.tmp 55, .tmp 59]) rfl ?_); at_builtin; refine Kd.R_append_rows (Kd.int .u8) (w0 := w) w.heap.size rfl (.tmp 55) (.tmp 59) 22 5 (.int .u8 0) 1 rfl Try.underlying22 info5 rfl (by decide) (by omega) v240 y239 y242 _ _ _ (fun k_ => (w.heap.size ≤ k_) ∧ some k_ ≠ (.slice Ao77 t236.length co77 : Value).ownBlock ∧ some k_ ≠ (.slice Ao81 y242.length co81 : Value).ownBlock) (fun _ => False) rfl rfl ?aO ?aR (fun _ _ h => h) (fun _ h => h.elim) ?aF ?aB ?aS ?aL ?_; (case aR => repeat (first | exact (Kd.R_reads' HO244.out).2.2 | (with_reducible refine Kd.C_alloc ?_ _) | (with_reducible refine Kd.C_drewN ?_ _) | (with_reducible refine Kd.C_drew ?_))); (case aB => exact (by repeat (first | (with_reducible first | exact HB.out | apply below_alloc | apply pw_below_drewN | apply below_drew1) | exact HB.out))); (case aF => exact (fun k_ hk => ⟨(Nat.le_trans (below_size (by repeat (first | (with_reducible first | exact HB.out | apply below_alloc | apply pw_below_drewN | apply below_drew1) | exact HB.out))) hk), Kd.fresh' (Kd.R_lt (by (with_reducible repeat (first | apply Kd.R_alloc | apply Kd.R_drewN | apply Kd.R_drew)); exact HO238.out)) k_ hk, Kd.fresh' (Kd.R_lt (by (with_reducible repeat (first | apply Kd.R_alloc | apply Kd.R_drewN | apply Kd.R_drew)); exact HO244.out)) k_ hk⟩)); (case aO => exact (by (with_reducible repeat (first | apply Kd.R_alloc | apply Kd.R_drewN | apply Kd.R_drew)); exact Kd.R_mono HO241.out (fun _ hk => ⟨hk.1.1, ⟨hk.1.2, hk.2⟩⟩))); (case aS => exact (below_size (by repeat (first | (with_reducible first | exact HB.out | apply below_alloc | apply pw_below_drewN | apply below_drew1) | exact HB.out)))); (case aL => have := LMc68.out; omega); intro v246 w80 ho hb hg hat; rw [← Ny245.out] at ho; have n0_ := Aside0.mk (Kd.V_afterv (ok := (fun k_ => (P1_ k_ ∨ w.heap.size ≤ k_) ∧ some k_ ≠ (.slice Ao77 t236.length co77 : Value).ownBlock ∧ some k_ ≠ (.slice Ao81 y242.length co81 : Value).ownBlock)) (by (with_reducible repeat (first | apply Kd.V_alloc | apply Kd.V_drewN | apply Kd.V_drew)); exact Kd.V_mono HO_1.out (fun _ hk => ⟨⟨hk.1.1.1, ⟨hk.1.1.2, hk.2⟩⟩, hk.1.2⟩)) hg hat); have n1_ := Aside0.mk (Kd.V_afterv (ok := (fun k_ => (P1_ k_ ∨ w.heap.size ≤ k_) ∧ some k_ ≠ (.slice Ao77 t236.length co77 : Value).ownBlock ∧ some k_ ≠ (.slice Ao81 y242.length co81 : Value).ownBlock)) (by (with_reducible repeat (first | apply Kd.V_alloc | apply Kd.V_drewN | apply Kd.V_drew)); exact Kd.V_mono HO235.out (fun _ hk => ⟨⟨hk.1.1.1, ⟨hk.1.1.2, hk.2⟩⟩, hk.1.2⟩)) hg hat); have n2_ := Aside0.mk (Kd.R_after (ok := (fun k_ => (w.heap.size ≤ k_) ∧ some k_ ≠ (.slice Ao81 y242.length co81 : Value).ownBlock)) (by (with_reducible repeat (first | apply Kd.R_alloc | apply Kd.R_drewN | apply Kd.R_drew)); exact Kd.R_mono HO238.out (fun _ hk => ⟨⟨hk.1.1, hk.2⟩, hk.1.2⟩)) hg hat); have n3_ := Aside0.mk (Kd.R_after (ok := (fun k_ => (w.heap.size ≤ k_) ∧ some k_ ≠ (.slice Ao77 t236.length co77 : Value).ownBlock)) (by (with_reducible repeat (first | apply Kd.R_alloc | apply Kd.R_drewN | apply Kd.R_drew)); exact Kd.R_mono HO244.out (fun _ hk => ⟨⟨hk.1.1.1, hk.1.2⟩, hk.2⟩)) hg hat); have n4_ := Aside0.mk (hb); have n5_ := Aside0.mk (ho); clear HO_1; clear HO235; clear HO238; clear HO244; clear HB; clear HO241; have HO_1 := n0_; have HO235 := n1_; have HO238 := n2_; have HO244 := n3_; have HB := n4_; have HO247 := n5_; clear n0_ n1_ n2_ n3_ n4_ n5_; clear ho hb hg hat; have q82 : (ji12 : Int) ≤ ((x1_1.length : Int) : Int) := of_decide_eq_true (by first | (with_reducible assumption) | assumption); obtain ⟨i082, hi082, _, hsz82, _⟩ := info_parts info5; have hroom82 : x1_1.length ≤ co17 := (Kd.V_reads' HO_1.out).2.1; have hC82 : Kd.F (Kd.int .u8) _ _ Ao17 x1_1.length x1_1 := (Kd.V_at (base := w.heap.size) HO_1.out).2.2; have hcut82 := cut_to (P := Try.prog) 22 5 .i64 Try.underlying22 hi082 Ao17 x1_1.length co17 ji12 (of_decide_eq_true (by first | (with_reducible assumption) | assumption)) q82 hroom82; have hr82 := Kd.F_take (m := (ji12 : Int).toNat) hC82 (by omega); have hy82 : y248.length = (ji12 : Int).toNat := (by rw [Ny248.out, List.length_take]; omega); rw [← Ny248.out] at hr82; rw [← hy82] at hcut82; have HO252 := Aside0.mk (show Kd.V (Kd.int .u8) 5 _ w.heap.size _ (.slice Ao17 y248.length co17) y248 from Kd.V_mk (by omega) hr82); have HC252 := Aside0.mk (show y248.length ≤ co17 from by omega); clear hr82 hC82 hroom82 hi082 hsz82; have KY82 := Aside0.mk hy82; clear hy82; replace q82 := eq_true q82) | ((with_reducible refine gate_builtin (b := .append) (xs := #[.tmp 61, .tmp 64]) rfl ?_); at_builtin; refine Kd.R_append_rows (Kd.int .u8) (w0 := w) w.heap.size rfl (.tmp 61) (.tmp 64) 22 5 (.int .u8 0) 1 rfl Try.underlying22 info5 rfl (by decide) (by omega) v246 y245 y248 _ _ _ (fun k_ => (w.heap.size ≤ k_) ∧ some k_ ≠ (.slice Ao77 t236.length co77 : Value).ownBlock ∧ some k_ ≠ (.slice Ao81 y242.length co81 : Value).ownBlock) (fun _ => False) rfl rfl ?aO ?aR (fun _ _ h => h) (fun _ h => h.elim) ?aF ?aB ?aS ?aL ?_; (case aR => repeat (first | exact (Kd.V_reads' HO252.out).2.2 | exact (by have z_ := (Kd.V_reads' HO252.out).2.2; rw [Ey248.out] at z_ ⊢; exact z_) | (with_reducible refine Kd.C_alloc ?_ _) | (with_reducible refine Kd.C_drewN ?_ _) | (with_reducible refine Kd.C_drew ?_))); (case aB => exact (by repeat (first | (with_reducible first | exact HB.out | apply below_alloc | apply pw_below_drewN | apply below_drew1) | exact HB.out))); (case aF => exact (fun k_ hk => ⟨(Nat.le_trans (below_size (by repeat (first | (with_reducible first | exact HB.out | apply below_alloc | apply pw_below_drewN | apply below_drew1) | exact HB.out))) hk), Kd.fresh' (Kd.R_lt (by (with_reducible repeat (first | apply Kd.R_alloc | apply Kd.R_drewN | apply Kd.R_drew)); exact HO238.out)) k_ hk, Kd.fresh' (Kd.R_lt (by (with_reducible repeat (first | apply Kd.R_alloc | apply Kd.R_drewN | apply Kd.R_drew)); exact HO244.out)) k_ hk⟩)); (case aO => exact (by (with_reducible repeat (first | apply Kd.R_alloc | apply Kd.R_drewN | apply Kd.R_drew)); exact HO247.out)); (case aS => exact (below_size (by repeat (first | (with_reducible first | exact HB.out | apply below_alloc | apply pw_below_drewN | apply below_drew1) | exact HB.out)))); (case aL => have := LMc71.out; have := congrArg List.length Ey248.out; omega); intro v254 w83 ho hb hg hat; rw [← Ny253.out] at ho; have n0_ := Aside0.mk (Kd.V_afterv (ok := (fun k_ => (P1_ k_ ∨ w.heap.size ≤ k_) ∧ some k_ ≠ (.slice Ao77 t236.length co77 : Value).ownBlock ∧ some k_ ≠ (.slice Ao81 y242.length co81 : Value).ownBlock)) (by (with_reducible repeat (first | apply Kd.V_alloc | apply Kd.V_drewN | apply Kd.V_drew)); exact HO_1.out) hg hat); have n1_ := Aside0.mk (Kd.V_afterv (ok := (fun k_ => (P1_ k_ ∨ w.heap.size ≤ k_) ∧ some k_ ≠ (.slice Ao77 t236.length co77 : Value).ownBlock ∧ some k_ ≠ (.slice Ao81 y242.length co81 : Value).ownBlock)) (by (with_reducible repeat (first | apply Kd.V_alloc | apply Kd.V_drewN | apply Kd.V_drew)); exact HO235.out) hg hat); have n2_ := Aside0.mk (Kd.R_after (ok := (fun k_ => (w.heap.size ≤ k_) ∧ some k_ ≠ (.slice Ao81 y242.length co81 : Value).ownBlock)) (by (with_reducible repeat (first | apply Kd.R_alloc | apply Kd.R_drewN | apply Kd.R_drew)); exact HO238.out) hg hat); have n3_ := Aside0.mk (Kd.R_after (ok := (fun k_ => (w.heap.size ≤ k_) ∧ some k_ ≠ (.slice Ao77 t236.length co77 : Value).ownBlock)) (by (with_reducible repeat (first | apply Kd.R_alloc | apply Kd.R_drewN | apply Kd.R_drew)); exact HO244.out) hg hat); have n4_ := Aside0.mk (Kd.V_afterv (ok := (fun k_ => (P1_ k_ ∨ w.heap.size ≤ k_) ∧ some k_ ≠ (.slice Ao77 t236.length co77 : Value).ownBlock ∧ some k_ ≠ (.slice Ao81 y242.length co81 : Value).ownBlock)) (by (with_reducible repeat (first | apply Kd.V_alloc | apply Kd.V_drewN | apply Kd.V_drew)); exact HO252.out) hg hat); have n5_ := Aside0.mk (hb); have n6_ := Aside0.mk (ho); clear HO_1; clear HO235; clear HO238; clear HO244; clear HO252; clear HB; clear HO247; have HO_1 := n0_; have HO235 := n1_; have HO238 := n2_; have HO244 := n3_; have HO252 := n4_; have HB := n5_; have HO255 := n6_; clear n0_ n1_ n2_ n3_ n4_ n5_ n6_; clear ho hb hg hat; have q84 : (ji12 : Int) ≤ ((x1_1.length : Int) : Int) := of_decide_eq_true (by first | (with_reducible assumption) | assumption); obtain ⟨i084, hi084, _, hsz84, _⟩ := info_parts info5; have hroom84 : x1_1.length ≤ co17 := (Kd.V_reads' HO_1.out).2.1; have hC84 : Kd.F (Kd.int .u8) _ _ Ao17 x1_1.length x1_1 := (Kd.V_at (base := w.heap.size) HO_1.out).2.2; have q084 : (0 : Int) ≤ (ji12 : Int) := of_decide_eq_true (by first | (with_reducible assumption) | assumption); have hcut84 := cut_from (P := Try.prog) 22 5 .i64 Try.underlying22 hi084 1 hsz84 Ao17 x1_1.length co17 ji12 q084 q84; have hr84 := Kd.F_cut (m := (ji12 : Int).toNat) (c := co17) hC84 (by omega) hroom84; obtain ⟨A84, hA84⟩ : ∃ A1, A1 = (if co17 = (ji12 : Int).toNat then Ao17 else (Ao17 : Option Addr).map (·.add ((ji12 : Int).toNat * 1))) := ⟨_, rfl⟩; obtain ⟨c84, hc84⟩ : ∃ c1, c1 = co17 - (ji12 : Int).toNat := ⟨_, rfl⟩; have hy84 : y256.length = x1_1.length - (ji12 : Int).toNat := (by rw [Ny256.out, List.length_drop] <;> omega); rw [show (x1_1).drop (ji12 : Int).toNat = y256 from Ny256.out.symm] at hr84; replace hr84 : Kd.F (Kd.int .u8) _ _ A84 y256.length y256 := (by rw [hA84]; exact hr84); rw [← hy84, ← hA84, ← hc84] at hcut84; have HO260 := Aside0.mk (show Kd.V (Kd.int .u8) 5 _ w.heap.size _ (.slice A84 y256.length c84) y256 from Kd.V_mk (by rw [hy84, hc84]; exact Nat.sub_le_sub_right hroom84 _) hr84); have HC260 := Aside0.mk (show y256.length ≤ c84 from by rw [hy84, hc84]; exact Nat.sub_le_sub_right hroom84 _); clear hr84 hC84 hroom84 hi084 hsz84 hc84; have KY84 := Aside0.mk hy84; have KA84 := Aside0.mk hA84; clear hy84 hA84; replace q84 := eq_true q84))
                                    go_roundg kj12
                                    case measure => have := HK1.out; have := HJ12.out; omega
                                    case rel => exact ⟨(y256), (y253), (((ji12) == (x1_1.length : Int))), (true), (by first | rfl | (simp; done) | (first | exact congrArg Value.bool (by assumption) | exact congrArg Value.bool (Eq.symm (by assumption)) | (simp only [← hji12] <;> (first | rfl | (simp; done)))) | (simp [*]; done)), (by first | rfl | (simp; done) | (simp [*]; done)), H', ⟨by have := HK1.out; have := HJ12.out; omega⟩, ⟨by (with_reducible repeat (first | apply Kd.V_alloc | apply Kd.V_drewN | apply Kd.V_drew)); exact Kd.V_mono HO260.out (fun _ hk => ⟨hk.1.1, hk.2⟩)⟩, ⟨by (with_reducible repeat (first | apply Kd.R_alloc | apply Kd.R_drewN | apply Kd.R_drew)); exact Kd.R_mono HO255.out (fun _ hk => hk.1)⟩, ⟨by repeat (first | (with_reducible first | exact HB.out | apply below_alloc | apply pw_below_drewN | apply below_drew1) | exact HB.out)⟩⟩
                                  · rw [if_neg c71] at H
                                    exact absurd H (by simp)
                                · rw [if_neg c68] at H
                                  exact absurd H (by simp)
                              · rw [if_neg c67] at H
                                exact absurd H (by simp)
                            · rw [if_neg c65] at H
                              exact absurd H (by simp)
                          · rw [if_neg c64] at H
                            exact absurd H (by simp)
                      · replace c41 := Bool.eq_false_iff.mpr c41
                        subst c41
                        have H1 : (if 0 ≤ ji12 then (if ji12 ≤ (x1_1.length : Int) then ((impl_check.f kj12 2 (x1_1.take (ji12 : Int).toNat)).bind fun t266 => (if y168.length + t266.length < 140737488355328 then ((some (y168 ++ t266 : List Int)).bind fun y269 => ((some (([(ji12) % 256, 2] : List Int) : List Int)).bind fun y272 => (if y269.length + y272.length < 140737488355328 then ((some (y269 ++ y272 : List Int)).bind fun y275 => ((some (x1_1.take (ji12 : Int).toNat : List Int)).bind fun y278 => (if y275.length + y278.length < 140737488355328 then (impl_logPieces.l0 kj12 a0 (x1_1.drop (ji12 : Int).toNat) (y275 ++ y278) ((ji12) == (x1_1.length : Int)) true) else (none)))) else (none)))) else (none))) else (none)) else (none)) = some r := by rw [if_neg (show ¬ (false = true) by decide)] at H; exact H
                        clear H
                        have H := H1
                        clear H1
                        by_cases c85 : 0 ≤ ji12
                        · rw [if_pos c85] at H
                          have c85b0 := eq_true c85
                          have c85b1 : decide (0 ≤ ji12) = true := decide_eq_true c85
                          clear c85
                          by_cases c86 : ji12 ≤ (x1_1.length : Int)
                          · rw [if_pos c86] at H
                            have c86b0 := eq_true c86
                            have c86b1 : decide (ji12 ≤ (x1_1.length : Int)) = true := decide_eq_true c86
                            clear c86
                            obtain ⟨y261, hy261⟩ : ∃ y_ : List Int, y_ = (x1_1.take (ji12 : Int).toNat) := ⟨_, rfl⟩
                            replace H : ((impl_check.f kj12 2 y261).bind fun t266 => (if y168.length + t266.length < 140737488355328 then ((some (y168 ++ t266 : List Int)).bind fun y269 => ((some (([(ji12) % 256, 2] : List Int) : List Int)).bind fun y272 => (if y269.length + y272.length < 140737488355328 then ((some (y269 ++ y272 : List Int)).bind fun y275 => ((some (x1_1.take (ji12 : Int).toNat : List Int)).bind fun y278 => (if y275.length + y278.length < 140737488355328 then (impl_logPieces.l0 kj12 a0 (x1_1.drop (ji12 : Int).toNat) (y275 ++ y278) ((ji12) == (x1_1.length : Int)) true) else (none)))) else (none)))) else (none))) = some r := by first | (rw [hy261]; with_reducible exact H) | (have H2_ := (Option.bind_some _ _).symm.trans H; rw [hy261]; with_reducible exact H2_) | (have H2_ := (Option.bind_some _ _).symm.trans H; with_reducible exact H2_) | with_reducible exact H | (rw [hy261]; exact H) | exact H
                            have Ny261 := Aside0.mk hy261
                            clear hy261
                            replace H := Option.bind_eq_some_iff.mp H
                            obtain ⟨t266, A870, H⟩ := H
                            replace H : (if y168.length + t266.length < 140737488355328 then ((some (y168 ++ t266 : List Int)).bind fun y269 => ((some (([(ji12) % 256, 2] : List Int) : List Int)).bind fun y272 => (if y269.length + y272.length < 140737488355328 then ((some (y269 ++ y272 : List Int)).bind fun y275 => ((some (x1_1.take (ji12 : Int).toNat : List Int)).bind fun y278 => (if y275.length + y278.length < 140737488355328 then (impl_logPieces.l0 kj12 a0 (x1_1.drop (ji12 : Int).toNat) (y275 ++ y278) ((ji12) == (x1_1.length : Int)) true) else (none)))) else (none)))) else (none)) = some r := H
                            have A87 := Aside0.mk A870
                            clear A870
                            by_cases c88 : y168.length + t266.length < 140737488355328
                            · rw [if_pos c88] at H
                              have LMc88 := Aside0.mk c88
                              clear c88
                              obtain ⟨y269, hy269⟩ : ∃ y_ : List Int, y_ = (y168 ++ t266) := ⟨_, rfl⟩
                              replace H : ((some (([(ji12) % 256, 2] : List Int) : List Int)).bind fun y272 => (if y269.length + y272.length < 140737488355328 then ((some (y269 ++ y272 : List Int)).bind fun y275 => ((some (x1_1.take (ji12 : Int).toNat : List Int)).bind fun y278 => (if y275.length + y278.length < 140737488355328 then (impl_logPieces.l0 kj12 a0 (x1_1.drop (ji12 : Int).toNat) (y275 ++ y278) ((ji12) == (x1_1.length : Int)) true) else (none)))) else (none))) = some r := by first | (rw [hy269]; with_reducible exact H) | (have H2_ := (Option.bind_some _ _).symm.trans H; rw [hy269]; with_reducible exact H2_) | (have H2_ := (Option.bind_some _ _).symm.trans H; with_reducible exact H2_) | with_reducible exact H | (rw [hy269]; exact H) | exact H
                              have Ny269 := Aside0.mk hy269
                              clear hy269
                              obtain ⟨y272, hy272⟩ : ∃ y_ : List Int, y_ = (([(ji12) % 256, 2] : List Int)) := ⟨_, rfl⟩
                              replace H : (if y269.length + y272.length < 140737488355328 then ((some (y269 ++ y272 : List Int)).bind fun y275 => ((some (x1_1.take (ji12 : Int).toNat : List Int)).bind fun y278 => (if y275.length + y278.length < 140737488355328 then (impl_logPieces.l0 kj12 a0 (x1_1.drop (ji12 : Int).toNat) (y275 ++ y278) ((ji12) == (x1_1.length : Int)) true) else (none)))) else (none)) = some r := by first | (rw [hy272]; with_reducible exact H) | (have H2_ := (Option.bind_some _ _).symm.trans H; rw [hy272]; with_reducible exact H2_) | (have H2_ := (Option.bind_some _ _).symm.trans H; with_reducible exact H2_) | with_reducible exact H | (rw [hy272]; exact H) | exact H
                              have Ny272 := Aside0.mk hy272
                              clear hy272
                              by_cases c89 : y269.length + y272.length < 140737488355328
                              · rw [if_pos c89] at H
                                have LMc89 := Aside0.mk c89
                                clear c89
                                obtain ⟨y275, hy275⟩ : ∃ y_ : List Int, y_ = (y269 ++ y272) := ⟨_, rfl⟩
                                replace H : ((some (x1_1.take (ji12 : Int).toNat : List Int)).bind fun y278 => (if y275.length + y278.length < 140737488355328 then (impl_logPieces.l0 kj12 a0 (x1_1.drop (ji12 : Int).toNat) (y275 ++ y278) ((ji12) == (x1_1.length : Int)) true) else (none))) = some r := by first | (rw [hy275]; with_reducible exact H) | (have H2_ := (Option.bind_some _ _).symm.trans H; rw [hy275]; with_reducible exact H2_) | (have H2_ := (Option.bind_some _ _).symm.trans H; with_reducible exact H2_) | with_reducible exact H | (rw [hy275]; exact H) | exact H
                                have Ny275 := Aside0.mk hy275
                                clear hy275
                                have c90b0 := eq_true (of_decide_eq_true (by first | (with_reducible assumption) | assumption) : 0 ≤ ji12)
                                have c91b0 := eq_true (of_decide_eq_true (by first | (with_reducible assumption) | assumption) : ji12 ≤ (x1_1.length : Int))
                                obtain ⟨y278, hy278⟩ : ∃ y_ : List Int, y_ = (x1_1.take (ji12 : Int).toNat) := ⟨_, rfl⟩
                                replace H : (if y275.length + y278.length < 140737488355328 then (impl_logPieces.l0 kj12 a0 (x1_1.drop (ji12 : Int).toNat) (y275 ++ y278) ((ji12) == (x1_1.length : Int)) true) else (none)) = some r := by first | (rw [hy278]; with_reducible exact H) | (have H2_ := (Option.bind_some _ _).symm.trans H; rw [hy278]; with_reducible exact H2_) | (have H2_ := (Option.bind_some _ _).symm.trans H; with_reducible exact H2_) | with_reducible exact H | (rw [hy278]; exact H) | exact H
                                have Ny278 := Aside0.mk hy278
                                have Ey278 := Aside0.mk (show y278 = y261 from hy278.trans Ny261.out.symm)
                                clear hy278
                                by_cases c92 : y275.length + y278.length < 140737488355328
                                · rw [if_pos c92] at H
                                  have LMc92 := Aside0.mk c92
                                  clear c92
                                  obtain ⟨y283, hy283⟩ : ∃ y_ : List Int, y_ = (y275 ++ y278) := ⟨_, rfl⟩
                                  replace H : (impl_logPieces.l0 kj12 a0 (x1_1.drop (ji12 : Int).toNat) y283 ((ji12) == (x1_1.length : Int)) true) = some r := by first | (rw [hy283]; with_reducible exact H) | (have H2_ := (Option.bind_some _ _).symm.trans H; rw [hy283]; with_reducible exact H2_) | (have H2_ := (Option.bind_some _ _).symm.trans H; with_reducible exact H2_) | with_reducible exact H | (rw [hy283]; exact H) | exact H
                                  have Ny283 := Aside0.mk hy283
                                  clear hy283
                                  have c93b0 := eq_true (of_decide_eq_true (by first | (with_reducible assumption) | assumption) : 0 ≤ ji12)
                                  have c94b0 := eq_true (of_decide_eq_true (by first | (with_reducible assumption) | assumption) : ji12 ≤ (x1_1.length : Int))
                                  obtain ⟨y286, hy286⟩ : ∃ y_ : List Int, y_ = (x1_1.drop (ji12 : Int).toNat) := ⟨_, rfl⟩
                                  replace H : (impl_logPieces.l0 kj12 a0 y286 y283 ((ji12) == (x1_1.length : Int)) true) = some r := by first | (rw [hy286]; with_reducible exact H) | (have H2_ := (Option.bind_some _ _).symm.trans H; rw [hy286]; with_reducible exact H2_) | (have H2_ := (Option.bind_some _ _).symm.trans H; with_reducible exact H2_) | with_reducible exact H | (rw [hy286]; exact H) | exact H
                                  have Ny286 := Aside0.mk hy286
                                  clear hy286
                                  have H' := Aside0.mk H
                                  clear H
                                  have q95 : (ji12 : Int) ≤ ((x1_1.length : Int) : Int) := of_decide_eq_true (by first | (with_reducible assumption) | assumption)
                                  obtain ⟨i095, hi095, _, hsz95, _⟩ := info_parts info5
                                  have hroom95 : x1_1.length ≤ co17 := (Kd.V_reads' HO_1.out).2.1
                                  have hC95 : Kd.F (Kd.int .u8) _ _ Ao17 x1_1.length x1_1 := (Kd.V_at (base := w.heap.size) HO_1.out).2.2
                                  have hcut95 := cut_to (P := Try.prog) 22 5 .i64 Try.underlying22 hi095 Ao17 x1_1.length co17 ji12 (of_decide_eq_true (by first | (with_reducible assumption) | assumption)) q95 hroom95
                                  have hr95 := Kd.F_take (m := (ji12 : Int).toNat) hC95 (by omega)
                                  have hy95 : y261.length = (ji12 : Int).toNat := (by rw [Ny261.out, List.length_take]; omega)
                                  rw [← Ny261.out] at hr95
                                  rw [← hy95] at hcut95
                                  have HO265 := Aside0.mk (show Kd.V (Kd.int .u8) 5 _ w.heap.size _ (.slice Ao17 y261.length co17) y261 from Kd.V_mk (by omega) hr95)
                                  have HC265 := Aside0.mk (show y261.length ≤ co17 from by omega)
                                  clear hr95 hC95 hroom95 hi095 hsz95
                                  have KY95 := Aside0.mk hy95
                                  clear hy95
                                  replace q95 := eq_true q95
                                  go_wp2_with (first | ((with_reducible refine gate_callee (f := 107) rfl ?_); refine goesL_ (some 54) rfl rfl Try.func107 (by kernel_rfl) rfl #[.int .u8 2, .slice Ao17 y261.length co17] rfl (by (try simp only [List.map_toArray, List.map_cons, List.map_nil]); first | done | rfl | (simp only [List.length_drop, List.length_take]; rfl)) ?_; (with_reducible refine (impl_check.calls kj12 2 _ _ y261 t266 _ ?side1 ?side2 A87.out).mono ?_); (case side1 => repeat (first | exact (Kd.V_reads' HO265.out).2.2 | (with_reducible refine Kd.C_alloc ?_ _) | (with_reducible refine Kd.C_drewN ?_ _) | (with_reducible refine Kd.C_drew ?_))); (case side2 => exact (Kd.V_reads' HO265.out).2.1); rintro e w96 ⟨v267, rfl, ho0, hb⟩; refine ⟨_, rfl, ?_⟩; have n0_ := Aside0.mk (Kd.V_elder' (by (with_reducible repeat (first | apply Kd.V_alloc | apply Kd.V_drewN | apply Kd.V_drew)); exact HO_1.out) (Kd.R_base ho0) hb); have n1_ := Aside0.mk (Kd.R_elder' (by (with_reducible repeat (first | apply Kd.R_alloc | apply Kd.R_drewN | apply Kd.R_drew)); exact HO_5.out) (Kd.R_base ho0) hb); have n2_ := Aside0.mk (Kd.V_elder' (by (with_reducible repeat (first | apply Kd.V_alloc | apply Kd.V_drewN | apply Kd.V_drew)); exact HO265.out) (Kd.R_base ho0) hb); have n3_ := Aside0.mk (Kd.R_lower (Kd.R_new' (Kd.R_newM (M := fun k_ => (w.heap.size ≤ k_)) ho0 (below_size (by repeat (first | (with_reducible first | exact HB.out | apply below_alloc | apply pw_below_drewN | apply below_drew1) | exact HB.out))) (fun k_ h_ => h_)) (Kd.R_lt (by (with_reducible repeat (first | apply Kd.R_alloc | apply Kd.R_drewN | apply Kd.R_drew)); exact HO_5.out))) (below_size (by repeat (first | (with_reducible first | exact HB.out | apply below_alloc | apply pw_below_drewN | apply below_drew1) | exact HB.out)))); have n4_ := Aside0.mk (below_step (by repeat (first | (with_reducible first | exact HB.out | apply below_alloc | apply pw_below_drewN | apply below_drew1) | exact HB.out)) hb); clear HO_1; clear HO_5; clear HO265; clear HB; have HO_1 := n0_; have HO_5 := n1_; have HO265 := n2_; have HO268 := n3_; have HB := n4_; clear n0_ n1_ n2_ n3_ n4_; (try clear hb); (try clear hb2); (try clear hk); (try clear hi); (try clear ho0); obtain ⟨Ao98, co98, eo98⟩ := Kd.R_slice HO268.out; subst eo98) | ((with_reducible refine gate_builtin (b := .append) (xs := #[.tmp 49, .tmp 54]) rfl ?_); at_builtin; refine Kd.R_append_rows (Kd.int .u8) (w0 := w) w.heap.size rfl (.tmp 49) (.tmp 54) 22 5 (.int .u8 0) 1 rfl Try.underlying22 info5 rfl (by decide) (by omega) (.slice Ao16 y168.length co16) y168 t266 _ _ _ (fun k_ => (w.heap.size ≤ k_) ∧ some k_ ≠ (.slice Ao98 t266.length co98 : Value).ownBlock) (fun _ => False) rfl rfl ?aO ?aR (fun _ _ h => h) (fun _ h => h.elim) ?aF ?aB ?aS ?aL ?_; (case aR => repeat (first | exact (Kd.R_reads' HO268.out).2.2 | (with_reducible refine Kd.C_alloc ?_ _) | (with_reducible refine Kd.C_drewN ?_ _) | (with_reducible refine Kd.C_drew ?_))); (case aB => exact (by repeat (first | (with_reducible first | exact HB.out | apply below_alloc | apply pw_below_drewN | apply below_drew1) | exact HB.out))); (case aF => exact (fun k_ hk => ⟨(Nat.le_trans (below_size (by repeat (first | (with_reducible first | exact HB.out | apply below_alloc | apply pw_below_drewN | apply below_drew1) | exact HB.out))) hk), Kd.fresh' (Kd.R_lt (by (with_reducible repeat (first | apply Kd.R_alloc | apply Kd.R_drewN | apply Kd.R_drew)); exact HO268.out)) k_ hk⟩)); (case aO => exact (by (with_reducible repeat (first | apply Kd.R_alloc | apply Kd.R_drewN | apply Kd.R_drew)); exact HO_5.out)); (case aS => exact (below_size (by repeat (first | (with_reducible first | exact HB.out | apply below_alloc | apply pw_below_drewN | apply below_drew1) | exact HB.out)))); (case aL => have := LMc88.out; omega); intro v270 w97 ho hb hg hat; rw [← Ny269.out] at ho; have n0_ := Aside0.mk (Kd.V_afterv (ok := (fun k_ => (P1_ k_ ∨ w.heap.size ≤ k_) ∧ some k_ ≠ (.slice Ao98 t266.length co98 : Value).ownBlock)) (by (with_reducible repeat (first | apply Kd.V_alloc | apply Kd.V_drewN | apply Kd.V_drew)); exact Kd.V_mono HO_1.out (fun _ hk => ⟨⟨hk.1.1, hk.2⟩, hk.1.2⟩)) hg hat); have n1_ := Aside0.mk (Kd.V_afterv (ok := (fun k_ => (P1_ k_ ∨ w.heap.size ≤ k_) ∧ some k_ ≠ (.slice Ao98 t266.length co98 : Value).ownBlock)) (by (with_reducible repeat (first | apply Kd.V_alloc | apply Kd.V_drewN | apply Kd.V_drew)); exact Kd.V_mono HO265.out (fun _ hk => ⟨⟨hk.1.1, hk.2⟩, hk.1.2⟩)) hg hat); have n2_ := Aside0.mk (Kd.R_after (ok := (fun k_ => (w.heap.size ≤ k_))) (by (with_reducible repeat (first | apply Kd.R_alloc | apply Kd.R_drewN | apply Kd.R_drew)); exact Kd.R_mono HO268.out (fun _ hk => ⟨hk.1.1, hk.2⟩)) hg hat); have n3_ := Aside0.mk (hb); have n4_ := Aside0.mk (ho); clear HO_1; clear HO265; clear HO268; clear HB; clear HO_5; have HO_1 := n0_; have HO265 := n1_; have HO268 := n2_; have HB := n3_; have HO271 := n4_; clear n0_ n1_ n2_ n3_ n4_; clear ho hb hg hat) | ((with_reducible refine gate_dst (N := 59) rfl ?_); refine Kd.R_lit (Kd.int .u8) _ 5 ?hg (N := 59) ?hd (xs := ([(ji12) % 256, 2] : List Int)) (inner := [.int .u8 ((ji12) % 256), .int .u8 2]) (ok := fun _ => True) (okp := fun _ => True) ?hr ?hp (fun _ hk => hk) trivial (Below.refl _ _) (Nat.le_refl _) (by simp) ?_; (case hd => rfl); (case hg => rfl); (case hr => first | (go_simp; done) | (go_simp; rfl)); (case hp => exact (Reps.one (show Kd.M (Kd.int .u8) _ _ _ ((ji12) % 256) [.int .u8 ((ji12) % 256)] from rfl) (Reps.one (show Kd.M (Kd.int .u8) _ _ _ 2 [.int .u8 2] from rfl) (Reps.none _ _)))); intro v273 w99 ho100 hb hg_ hnew_; clear hg_ hnew_; (first | rw [← Ny272.out] at ho100 | (simp only [Int.reduceToNat] at ho100; rw [← Ny272.out] at ho100)); have n0_ := Aside0.mk (Kd.V_elder' (by (with_reducible repeat (first | apply Kd.V_alloc | apply Kd.V_drewN | apply Kd.V_drew)); exact HO_1.out) (Kd.R_base ho100) hb); have n1_ := Aside0.mk (Kd.V_elder' (by (with_reducible repeat (first | apply Kd.V_alloc | apply Kd.V_drewN | apply Kd.V_drew)); exact HO265.out) (Kd.R_base ho100) hb); have n2_ := Aside0.mk (Kd.R_elder' (by (with_reducible repeat (first | apply Kd.R_alloc | apply Kd.R_drewN | apply Kd.R_drew)); exact HO268.out) (Kd.R_base ho100) hb); have n3_ := Aside0.mk (Kd.R_elder' (by (with_reducible repeat (first | apply Kd.R_alloc | apply Kd.R_drewN | apply Kd.R_drew)); exact HO271.out) (Kd.R_base ho100) hb); have n4_ := Aside0.mk (Kd.R_lower (Kd.R_new' (Kd.R_new' (Kd.R_newM (M := fun k_ => (w.heap.size ≤ k_)) ho100 (below_size (by repeat (first | (with_reducible first | exact HB.out | apply below_alloc | apply pw_below_drewN | apply below_drew1) | exact HB.out))) (fun k_ h_ => h_)) (Kd.R_lt (by (with_reducible repeat (first | apply Kd.R_alloc | apply Kd.R_drewN | apply Kd.R_drew)); exact HO268.out))) (Kd.R_lt (by (with_reducible repeat (first | apply Kd.R_alloc | apply Kd.R_drewN | apply Kd.R_drew)); exact HO271.out))) (below_size (by repeat (first | (with_reducible first | exact HB.out | apply below_alloc | apply pw_below_drewN | apply below_drew1) | exact HB.out)))); have n5_ := Aside0.mk (below_step (by repeat (first | (with_reducible first | exact HB.out | apply below_alloc | apply pw_below_drewN | apply below_drew1) | exact HB.out)) hb); clear HO_1; clear HO265; clear HO268; clear HO271; clear HB; have HO_1 := n0_; have HO265 := n1_; have HO268 := n2_; have HO271 := n3_; have HO274 := n4_; have HB := n5_; clear n0_ n1_ n2_ n3_ n4_ n5_; clear hb ho100; obtain ⟨Ao102, co102, eo102⟩ := Kd.R_slice HO274.out; subst eo102) | ((with_reducible refine gate_builtin (b := .append) (xs := #[.tmp 55, .tmp 59]) rfl ?_); at_builtin; refine Kd.R_append_rows (Kd.int .u8) (w0 := w) w.heap.size rfl (.tmp 55) (.tmp 59) 22 5 (.int .u8 0) 1 rfl Try.underlying22 info5 rfl (by decide) (by omega) v270 y269 y272 _ _ _ (fun k_ => (w.heap.size ≤ k_) ∧ some k_ ≠ (.slice Ao98 t266.length co98 : Value).ownBlock ∧ some k_ ≠ (.slice Ao102 y272.length co102 : Value).ownBlock) (fun _ => False) rfl rfl ?aO ?aR (fun _ _ h => h) (fun _ h => h.elim) ?aF ?aB ?aS ?aL ?_; (case aR => repeat (first | exact (Kd.R_reads' HO274.out).2.2 | (with_reducible refine Kd.C_alloc ?_ _) | (with_reducible refine Kd.C_drewN ?_ _) | (with_reducible refine Kd.C_drew ?_))); (case aB => exact (by repeat (first | (with_reducible first | exact HB.out | apply below_alloc | apply pw_below_drewN | apply below_drew1) | exact HB.out))); (case aF => exact (fun k_ hk => ⟨(Nat.le_trans (below_size (by repeat (first | (with_reducible first | exact HB.out | apply below_alloc | apply pw_below_drewN | apply below_drew1) | exact HB.out))) hk), Kd.fresh' (Kd.R_lt (by (with_reducible repeat (first | apply Kd.R_alloc | apply Kd.R_drewN | apply Kd.R_drew)); exact HO268.out)) k_ hk, Kd.fresh' (Kd.R_lt (by (with_reducible repeat (first | apply Kd.R_alloc | apply Kd.R_drewN | apply Kd.R_drew)); exact HO274.out)) k_ hk⟩)); (case aO => exact (by (with_reducible repeat (first | apply Kd.R_alloc | apply Kd.R_drewN | apply Kd.R_drew)); exact Kd.R_mono HO271.out (fun _ hk => ⟨hk.1.1, ⟨hk.1.2, hk.2⟩⟩))); (case aS => exact (below_size (by repeat (first | (with_reducible first | exact HB.out | apply below_alloc | apply pw_below_drewN | apply below_drew1) | exact HB.out)))); (case aL => have := LMc89.out; omega); intro v276 w101 ho hb hg hat; rw [← Ny275.out] at ho; have n0_ := Aside0.mk (Kd.V_afterv (ok := (fun k_ => (P1_ k_ ∨ w.heap.size ≤ k_) ∧ some k_ ≠ (.slice Ao98 t266.length co98 : Value).ownBlock ∧ some k_ ≠ (.slice Ao102 y272.length co102 : Value).ownBlock)) (by (with_reducible repeat (first | apply Kd.V_alloc | apply Kd.V_drewN | apply Kd.V_drew)); exact Kd.V_mono HO_1.out (fun _ hk => ⟨⟨hk.1.1.1, ⟨hk.1.1.2, hk.2⟩⟩, hk.1.2⟩)) hg hat); have n1_ := Aside0.mk (Kd.V_afterv (ok := (fun k_ => (P1_ k_ ∨ w.heap.size ≤ k_) ∧ some k_ ≠ (.slice Ao98 t266.length co98 : Value).ownBlock ∧ some k_ ≠ (.slice Ao102 y272.length co102 : Value).ownBlock)) (by (with_reducible repeat (first | apply Kd.V_alloc | apply Kd.V_drewN | apply Kd.V_drew)); exact Kd.V_mono HO265.out (fun _ hk => ⟨⟨hk.1.1.1, ⟨hk.1.1.2, hk.2⟩⟩, hk.1.2⟩)) hg hat); have n2_ := Aside0.mk (Kd.R_after (ok := (fun k_ => (w.heap.size ≤ k_) ∧ some k_ ≠ (.slice Ao102 y272.length co102 : Value).ownBlock)) (by (with_reducible repeat (first | apply Kd.R_alloc | apply Kd.R_drewN | apply Kd.R_drew)); exact Kd.R_mono HO268.out (fun _ hk => ⟨⟨hk.1.1, hk.2⟩, hk.1.2⟩)) hg hat); have n3_ := Aside0.mk (Kd.R_after (ok := (fun k_ => (w.heap.size ≤ k_) ∧ some k_ ≠ (.slice Ao98 t266.length co98 : Value).ownBlock)) (by (with_reducible repeat (first | apply Kd.R_alloc | apply Kd.R_drewN | apply Kd.R_drew)); exact Kd.R_mono HO274.out (fun _ hk => ⟨⟨hk.1.1.1, hk.1.2⟩, hk.2⟩)) hg hat); have n4_ := Aside0.mk (hb); have n5_ := Aside0.mk (ho); clear HO_1; clear HO265; clear HO268; clear HO274; clear HB; clear HO271; have HO_1 := n0_; have HO265 := n1_; have HO268 := n2_; have HO274 := n3_; have HB := n4_; have HO277 := n5_; clear n0_ n1_ n2_ n3_ n4_ n5_; clear ho hb hg hat; have q103 : (ji12 : Int) ≤ ((x1_1.length : Int) : Int) := of_decide_eq_true (by first | (with_reducible assumption) | assumption); obtain ⟨i0103, hi0103, _, hsz103, _⟩ := info_parts info5; have hroom103 : x1_1.length ≤ co17 := (Kd.V_reads' HO_1.out).2.1; have hC103 : Kd.F (Kd.int .u8) _ _ Ao17 x1_1.length x1_1 := (Kd.V_at (base := w.heap.size) HO_1.out).2.2; have hcut103 := cut_to (P := Try.prog) 22 5 .i64 Try.underlying22 hi0103 Ao17 x1_1.length co17 ji12 (of_decide_eq_true (by first | (with_reducible assumption) | assumption)) q103 hroom103; have hr103 := Kd.F_take (m := (ji12 : Int).toNat) hC103 (by omega); have hy103 : y278.length = (ji12 : Int).toNat := (by rw [Ny278.out, List.length_take]; omega); rw [← Ny278.out] at hr103; rw [← hy103] at hcut103; have HO282 := Aside0.mk (show Kd.V (Kd.int .u8) 5 _ w.heap.size _ (.slice Ao17 y278.length co17) y278 from Kd.V_mk (by omega) hr103); have HC282 := Aside0.mk (show y278.length ≤ co17 from by omega); clear hr103 hC103 hroom103 hi0103 hsz103; have KY103 := Aside0.mk hy103; clear hy103; replace q103 := eq_true q103) | ((with_reducible refine gate_builtin (b := .append) (xs := #[.tmp 61, .tmp 64]) rfl ?_); at_builtin; refine Kd.R_append_rows (Kd.int .u8) (w0 := w) w.heap.size rfl (.tmp 61) (.tmp 64) 22 5 (.int .u8 0) 1 rfl Try.underlying22 info5 rfl (by decide) (by omega) v276 y275 y278 _ _ _ (fun k_ => (w.heap.size ≤ k_) ∧ some k_ ≠ (.slice Ao98 t266.length co98 : Value).ownBlock ∧ some k_ ≠ (.slice Ao102 y272.length co102 : Value).ownBlock) (fun _ => False) rfl rfl ?aO ?aR (fun _ _ h => h) (fun _ h => h.elim) ?aF ?aB ?aS ?aL ?_; (case aR => repeat (first | exact (Kd.V_reads' HO282.out).2.2 | exact (by have z_ := (Kd.V_reads' HO282.out).2.2; rw [Ey278.out] at z_ ⊢; exact z_) | (with_reducible refine Kd.C_alloc ?_ _) | (with_reducible refine Kd.C_drewN ?_ _) | (with_reducible refine Kd.C_drew ?_))); (case aB => exact (by repeat (first | (with_reducible first | exact HB.out | apply below_alloc | apply pw_below_drewN | apply below_drew1) | exact HB.out))); (case aF => exact (fun k_ hk => ⟨(Nat.le_trans (below_size (by repeat (first | (with_reducible first | exact HB.out | apply below_alloc | apply pw_below_drewN | apply below_drew1) | exact HB.out))) hk), Kd.fresh' (Kd.R_lt (by (with_reducible repeat (first | apply Kd.R_alloc | apply Kd.R_drewN | apply Kd.R_drew)); exact HO268.out)) k_ hk, Kd.fresh' (Kd.R_lt (by (with_reducible repeat (first | apply Kd.R_alloc | apply Kd.R_drewN | apply Kd.R_drew)); exact HO274.out)) k_ hk⟩)); (case aO => exact (by (with_reducible repeat (first | apply Kd.R_alloc | apply Kd.R_drewN | apply Kd.R_drew)); exact HO277.out)); (case aS => exact (below_size (by repeat (first | (with_reducible first | exact HB.out | apply below_alloc | apply pw_below_drewN | apply below_drew1) | exact HB.out)))); (case aL => have := LMc92.out; have := congrArg List.length Ey278.out; omega); intro v284 w104 ho hb hg hat; rw [← Ny283.out] at ho; have n0_ := Aside0.mk (Kd.V_afterv (ok := (fun k_ => (P1_ k_ ∨ w.heap.size ≤ k_) ∧ some k_ ≠ (.slice Ao98 t266.length co98 : Value).ownBlock ∧ some k_ ≠ (.slice Ao102 y272.length co102 : Value).ownBlock)) (by (with_reducible repeat (first | apply Kd.V_alloc | apply Kd.V_drewN | apply Kd.V_drew)); exact HO_1.out) hg hat); have n1_ := Aside0.mk (Kd.V_afterv (ok := (fun k_ => (P1_ k_ ∨ w.heap.size ≤ k_) ∧ some k_ ≠ (.slice Ao98 t266.length co98 : Value).ownBlock ∧ some k_ ≠ (.slice Ao102 y272.length co102 : Value).ownBlock)) (by (with_reducible repeat (first | apply Kd.V_alloc | apply Kd.V_drewN | apply Kd.V_drew)); exact HO265.out) hg hat); have n2_ := Aside0.mk (Kd.R_after (ok := (fun k_ => (w.heap.size ≤ k_) ∧ some k_ ≠ (.slice Ao102 y272.length co102 : Value).ownBlock)) (by (with_reducible repeat (first | apply Kd.R_alloc | apply Kd.R_drewN | apply Kd.R_drew)); exact HO268.out) hg hat); have n3_ := Aside0.mk (Kd.R_after (ok := (fun k_ => (w.heap.size ≤ k_) ∧ some k_ ≠ (.slice Ao98 t266.length co98 : Value).ownBlock)) (by (with_reducible repeat (first | apply Kd.R_alloc | apply Kd.R_drewN | apply Kd.R_drew)); exact HO274.out) hg hat); have n4_ := Aside0.mk (Kd.V_afterv (ok := (fun k_ => (P1_ k_ ∨ w.heap.size ≤ k_) ∧ some k_ ≠ (.slice Ao98 t266.length co98 : Value).ownBlock ∧ some k_ ≠ (.slice Ao102 y272.length co102 : Value).ownBlock)) (by (with_reducible repeat (first | apply Kd.V_alloc | apply Kd.V_drewN | apply Kd.V_drew)); exact HO282.out) hg hat); have n5_ := Aside0.mk (hb); have n6_ := Aside0.mk (ho); clear HO_1; clear HO265; clear HO268; clear HO274; clear HO282; clear HB; clear HO277; have HO_1 := n0_; have HO265 := n1_; have HO268 := n2_; have HO274 := n3_; have HO282 := n4_; have HB := n5_; have HO285 := n6_; clear n0_ n1_ n2_ n3_ n4_ n5_ n6_; clear ho hb hg hat; have q105 : (ji12 : Int) ≤ ((x1_1.length : Int) : Int) := of_decide_eq_true (by first | (with_reducible assumption) | assumption); obtain ⟨i0105, hi0105, _, hsz105, _⟩ := info_parts info5; have hroom105 : x1_1.length ≤ co17 := (Kd.V_reads' HO_1.out).2.1; have hC105 : Kd.F (Kd.int .u8) _ _ Ao17 x1_1.length x1_1 := (Kd.V_at (base := w.heap.size) HO_1.out).2.2; have q0105 : (0 : Int) ≤ (ji12 : Int) := of_decide_eq_true (by first | (with_reducible assumption) | assumption); have hcut105 := cut_from (P := Try.prog) 22 5 .i64 Try.underlying22 hi0105 1 hsz105 Ao17 x1_1.length co17 ji12 q0105 q105; have hr105 := Kd.F_cut (m := (ji12 : Int).toNat) (c := co17) hC105 (by omega) hroom105; obtain ⟨A105, hA105⟩ : ∃ A1, A1 = (if co17 = (ji12 : Int).toNat then Ao17 else (Ao17 : Option Addr).map (·.add ((ji12 : Int).toNat * 1))) := ⟨_, rfl⟩; obtain ⟨c105, hc105⟩ : ∃ c1, c1 = co17 - (ji12 : Int).toNat := ⟨_, rfl⟩; have hy105 : y286.length = x1_1.length - (ji12 : Int).toNat := (by rw [Ny286.out, List.length_drop] <;> omega); rw [show (x1_1).drop (ji12 : Int).toNat = y286 from Ny286.out.symm] at hr105; replace hr105 : Kd.F (Kd.int .u8) _ _ A105 y286.length y286 := (by rw [hA105]; exact hr105); rw [← hy105, ← hA105, ← hc105] at hcut105; have HO290 := Aside0.mk (show Kd.V (Kd.int .u8) 5 _ w.heap.size _ (.slice A105 y286.length c105) y286 from Kd.V_mk (by rw [hy105, hc105]; exact Nat.sub_le_sub_right hroom105 _) hr105); have HC290 := Aside0.mk (show y286.length ≤ c105 from by rw [hy105, hc105]; exact Nat.sub_le_sub_right hroom105 _); clear hr105 hC105 hroom105 hi0105 hsz105 hc105; have KY105 := Aside0.mk hy105; have KA105 := Aside0.mk hA105; clear hy105 hA105; replace q105 := eq_true q105))
                                  go_roundg kj12
                                  case measure => have := HK1.out; have := HJ12.out; omega
                                  case rel => exact ⟨(y286), (y283), (((ji12) == (x1_1.length : Int))), (true), (by first | rfl | (simp; done) | (first | exact congrArg Value.bool (by assumption) | exact congrArg Value.bool (Eq.symm (by assumption)) | (simp only [← hji12] <;> (first | rfl | (simp; done)))) | (simp [*]; done)), (by first | rfl | (simp; done) | (simp [*]; done)), H', ⟨by have := HK1.out; have := HJ12.out; omega⟩, ⟨by (with_reducible repeat (first | apply Kd.V_alloc | apply Kd.V_drewN | apply Kd.V_drew)); exact Kd.V_mono HO290.out (fun _ hk => ⟨hk.1.1, hk.2⟩)⟩, ⟨by (with_reducible repeat (first | apply Kd.R_alloc | apply Kd.R_drewN | apply Kd.R_drew)); exact Kd.R_mono HO285.out (fun _ hk => hk.1)⟩, ⟨by repeat (first | (with_reducible first | exact HB.out | apply below_alloc | apply pw_below_drewN | apply below_drew1) | exact HB.out)⟩⟩
                                · rw [if_neg c92] at H
                                  exact absurd H (by simp)
                              · rw [if_neg c89] at H
                                exact absurd H (by simp)
                            · rw [if_neg c88] at H
                              exact absurd H (by simp)
                          · rw [if_neg c86] at H
                            exact absurd H (by simp)
                        · rw [if_neg c85] at H
                          exact absurd H (by simp)
              · rw [if_neg c11] at H
                exact absurd H (by simp)
            · rw [if_neg c10] at H
              exact absurd H (by simp)
    · rw [if_neg c5] at H
      exact absurd H (by simp)
  · rw [if_neg c4] at H
    exact absurd H (by simp)

/-! ### impl_LogPieces: function 33 -/
def impl_LogPieces.f (k : Nat) (a0 : Int) (l1 : List Int) : Option (List Int × Bool) := (impl_within.f a0 0 20000).bind fun t291 => (if t291 = true then (if (l1.length : Int) > 2000 then (some (([] : List Int), false)) else ((impl_logPieces.f k a0 l1).bind fun t292 => (some (t292, true)))) else (some (([] : List Int), false)))
theorem impl_LogPieces.mono : ∀ a0 a1 k, LeO (impl_LogPieces.f k a0 a1) (impl_LogPieces.f (k + 1) a0 a1) := by
  intro a0 a1 k
  unfold impl_LogPieces.f
  repeat' first
      | (with_reducible exact impl_logPieces.mono _ _ _)
      | (with_reducible exact LeO.refl _)
      | (with_reducible exact LeO.none _)
      | (with_reducible refine LeO.ite ?_ ?_)
      | (with_reducible refine LeO.bind ?_ (fun _ => ?_))
      | exact impl_logPieces.mono _ _ _
      | exact LeO.none _
      | refine LeO.ite ?_ ?_
      | refine LeO.bind ?_ (fun _ => ?_)
set_option maxHeartbeats 8000000 in
set_option maxRecDepth 100000 in
theorem impl_LogPieces.calls (k : Nat) (a0 : Int) (A1 : Option Addr) (c1 : Nat) (l1 : List Int) (r1 : List Int) (r2 : Bool) (w : World) (hr1 : Kd.C (Kd.int .u8) w A1 l1.length l1) (hc1 : l1.length ≤ c1) (h : impl_LogPieces.f k a0 l1 = some (r1, r2)) :
    Calls Try.prog 33 #[.int .i64 a0, .slice A1 l1.length c1] w fun e w' => ∃ v0_ : Value, e = .returned (.tuple #[v0_, .bool r2]) ∧ Kd.R (Kd.int .u8) 5 w' w.heap.size (fun _ => True) v0_ r1 ∧ Below w.heap.size w w' := by
  have HR1 := Aside0.mk hr1
  have HC1 := Aside0.mk hc1
  clear hr1 hc1
  have HB := Aside0.mk (Below.refl w.heap.size w)
  have H : ((impl_within.f a0 0 20000).bind fun t291 => (if t291 = true then (if (l1.length : Int) > 2000 then (some (([] : List Int), false)) else ((impl_logPieces.f k a0 l1).bind fun t292 => (some (t292, true)))) else (some (([] : List Int), false)))) = some (r1, r2) := h
  clear h
  replace H := Option.bind_eq_some_iff.mp H
  obtain ⟨t291, A30, H⟩ := H
  replace H : (if t291 = true then (if (l1.length : Int) > 2000 then (some (([] : List Int), false)) else ((impl_logPieces.f k a0 l1).bind fun t292 => (some (t292, true)))) else (some (([] : List Int), false))) = some (r1, r2) := H
  have A3 := Aside0.mk A30
  clear A30
  by_cases c4 : t291 = true
  · subst c4
    have H1 : (if (l1.length : Int) > 2000 then (some (([] : List Int), false)) else ((impl_logPieces.f k a0 l1).bind fun t292 => (some (t292, true)))) = some (r1, r2) := by rw [if_pos rfl] at H; exact H
    clear H
    have H := H1
    clear H1
    by_cases c5 : (l1.length : Int) > 2000
    · rw [if_pos c5] at H
      have c5b0 : decide (2000 < (l1.length : Int)) = true := decide_eq_true c5
      have c5b1 : decide (2000 < l1.length) = true := decide_eq_true (by omega)
      clear c5
      simp only [Option.some.injEq, Prod.mk.injEq] at H
      obtain ⟨rfl, rfl⟩ := H
      go_enter Try.func33, Try.ntmps33
      go_wp2_with (first | ((with_reducible refine gate_callee (f := 83) rfl ?_); refine goesL_ (some 7) rfl rfl Try.func83 (by kernel_rfl) rfl #[.int .i64 a0, .int .i64 0, .int .i64 20000] rfl (by (try simp only [List.map_toArray, List.map_cons, List.map_nil]); first | done | rfl | (simp only [List.length_drop, List.length_take]; rfl)) ?_; (with_reducible refine (impl_within.calls a0 0 20000 true _ A3.out).mono ?_); rintro e w' ⟨rfl, ⟨nd, rfl⟩⟩; refine ⟨_, rfl, ?_⟩))
      go_ret2
      exact ⟨_, by first | rfl | (simp [errW_none, errW_some] <;> rfl) | (simp [*, errW_none, errW_some] <;> rfl), by first | exact Kd.R_nil _ _ _ _ _ | exact Kd.N_nil _ _ _ _ _ | exact Kd.V_nil _ _ _ _ _ | exact Kd.Q_nil _ _ _ _ _ | exact Kd.S_nil _ _ _ _ _, by repeat (first | (with_reducible first | exact HB.out | apply below_alloc | apply pw_below_drewN | apply below_drew1) | exact HB.out)⟩
    · rw [if_neg c5] at H
      have c5b0 : decide (2000 < (l1.length : Int)) = false := decide_eq_false c5
      have c5b1 : decide (2000 < l1.length) = false := decide_eq_false (by omega)
      clear c5
      replace H := Option.bind_eq_some_iff.mp H
      obtain ⟨t292, A60, H⟩ := H
      replace H : (some (t292, true)) = some (r1, r2) := H
      have A6 := Aside0.mk A60
      clear A60
      simp only [Option.some.injEq, Prod.mk.injEq] at H
      obtain ⟨rfl, rfl⟩ := H
      go_enter Try.func33, Try.ntmps33
      go_wp2_with (first | ((with_reducible refine gate_callee (f := 83) rfl ?_); refine goesL_ (some 7) rfl rfl Try.func83 (by kernel_rfl) rfl #[.int .i64 a0, .int .i64 0, .int .i64 20000] rfl (by (try simp only [List.map_toArray, List.map_cons, List.map_nil]); first | done | rfl | (simp only [List.length_drop, List.length_take]; rfl)) ?_; (with_reducible refine (impl_within.calls a0 0 20000 true _ A3.out).mono ?_); rintro e w' ⟨rfl, ⟨nd, rfl⟩⟩; refine ⟨_, rfl, ?_⟩) | ((with_reducible refine gate_callee (f := 85) rfl ?_); refine goesL_ (some 16) rfl rfl Try.func85 (by kernel_rfl) rfl #[.int .i64 a0, .slice A1 l1.length c1] rfl (by (try simp only [List.map_toArray, List.map_cons, List.map_nil]); first | done | rfl | (simp only [List.length_drop, List.length_take]; rfl)) ?_; (with_reducible refine (impl_logPieces.calls k a0 (fun k_ => k_ < w.heap.size) _ _ l1 t292 _ ?side1 A6.out).mono ?_); (case side1 => exact Kd.V_mk HC1.out (Kd.F_below (Kd.C_F (Kd.heap_int .u8) HR1.out) (by repeat (first | (with_reducible first | exact HB.out | apply below_alloc | apply pw_below_drewN | apply below_drew1) | exact HB.out)))); rintro e w7 ⟨v293, rfl, ho0, hb⟩; refine ⟨_, rfl, ?_⟩; have n0_ := Aside0.mk (Kd.R_lower (Kd.R_mono (ok' := fun k_ => True) ho0 (fun _ hk_ => trivial)) (below_size (by repeat (first | (with_reducible first | exact HB.out | apply below_alloc | apply pw_below_drewN | apply below_drew1) | exact HB.out)))); have n1_ := Aside0.mk (below_step (by repeat (first | (with_reducible first | exact HB.out | apply below_alloc | apply pw_below_drewN | apply below_drew1) | exact HB.out)) hb); clear HB; have HO294 := n0_; have HB := n1_; clear n0_ n1_; (try clear hb); (try clear hb2); (try clear hk); (try clear hi); (try clear ho0)))
      go_ret2
      exact ⟨_, by first | rfl | (simp [errW_none, errW_some] <;> rfl) | (simp [*, errW_none, errW_some] <;> rfl), by (with_reducible repeat (first | apply Kd.R_alloc | apply Kd.R_drewN | apply Kd.R_drew)); exact HO294.out, by repeat (first | (with_reducible first | exact HB.out | apply below_alloc | apply pw_below_drewN | apply below_drew1) | exact HB.out)⟩
  · replace c4 := Bool.eq_false_iff.mpr c4
    subst c4
    have H1 : (some (([] : List Int), false)) = some (r1, r2) := by rw [if_neg (show ¬ (false = true) by decide)] at H; exact H
    clear H
    have H := H1
    clear H1
    simp only [Option.some.injEq, Prod.mk.injEq] at H
    obtain ⟨rfl, rfl⟩ := H
    go_enter Try.func33, Try.ntmps33
    go_wp2_with (first | ((with_reducible refine gate_callee (f := 83) rfl ?_); refine goesL_ (some 7) rfl rfl Try.func83 (by kernel_rfl) rfl #[.int .i64 a0, .int .i64 0, .int .i64 20000] rfl (by (try simp only [List.map_toArray, List.map_cons, List.map_nil]); first | done | rfl | (simp only [List.length_drop, List.length_take]; rfl)) ?_; (with_reducible refine (impl_within.calls a0 0 20000 false _ A3.out).mono ?_); rintro e w' ⟨rfl, ⟨nd, rfl⟩⟩; refine ⟨_, rfl, ?_⟩))
    go_ret2
    exact ⟨_, by first | rfl | (simp [errW_none, errW_some] <;> rfl) | (simp [*, errW_none, errW_some] <;> rfl), by first | exact Kd.R_nil _ _ _ _ _ | exact Kd.N_nil _ _ _ _ _ | exact Kd.V_nil _ _ _ _ _ | exact Kd.Q_nil _ _ _ _ _ | exact Kd.S_nil _ _ _ _ _, by repeat (first | (with_reducible first | exact HB.out | apply below_alloc | apply pw_below_drewN | apply below_drew1) | exact HB.out)⟩

/-! ### laws_eqByteS: function 34 -/
def laws_eqByteS.l0 : Nat → List Int → List Int → Int → Option (Bool)
  | 0, _, _, _ => none
  | k + 1, x0, x1, x5 => if x5 < (x0.length : Int) then (if 0 ≤ x5 then (if x5 < (x1.length : Int) then (if (rd x0 x5) = (rd x1 x5) then (laws_eqByteS.l0 k x0 x1 (wrap64 (x5 + 1))) else (some false)) else (none)) else (none)) else (some true)
def laws_eqByteS.f (k : Nat) (l0 : List Int) (l1 : List Int) : Option (Bool) := if (l0.length : Int) = (l1.length : Int) then (laws_eqByteS.l0 k l0 l1 0) else (some false)
theorem laws_eqByteS.mono_l : ∀ k, (∀ y0 y1 y2, LeO (laws_eqByteS.l0 k y0 y1 y2) (laws_eqByteS.l0 (k + 1) y0 y1 y2))
  | 0 => fun _ _ _ r h => by simp [laws_eqByteS.l0] at h
  | k + 1 => by
    have ih0 := laws_eqByteS.mono_l k
    · intro y0 y1 y2
      unfold laws_eqByteS.l0
      repeat' first
      | (with_reducible exact ih0 _ _ _)
      | (with_reducible exact LeO.refl _)
      | (with_reducible exact LeO.none _)
      | (with_reducible refine LeO.ite ?_ ?_)
      | (with_reducible refine LeO.bind ?_ (fun _ => ?_))
      | exact ih0 _ _ _
      | exact LeO.none _
      | refine LeO.ite ?_ ?_
      | refine LeO.bind ?_ (fun _ => ?_)
theorem laws_eqByteS.mono : ∀ a0 a1 k, LeO (laws_eqByteS.f k a0 a1) (laws_eqByteS.f (k + 1) a0 a1) := by
  intro a0 a1 k
  have ih0 := laws_eqByteS.mono_l k
  unfold laws_eqByteS.f
  repeat' first
      | (with_reducible exact ih0 _ _ _)
      | (with_reducible exact LeO.refl _)
      | (with_reducible exact LeO.none _)
      | (with_reducible refine LeO.ite ?_ ?_)
      | (with_reducible refine LeO.bind ?_ (fun _ => ?_))
      | exact ih0 _ _ _
      | exact LeO.none _
      | refine LeO.ite ?_ ?_
      | refine LeO.bind ?_ (fun _ => ?_)
set_option maxHeartbeats 8000000 in
set_option maxRecDepth 100000 in
theorem laws_eqByteS.calls (k : Nat) (A0 : Option Addr) (c0 : Nat) (l0 : List Int) (A1 : Option Addr) (c1 : Nat) (l1 : List Int) (r : Bool) (w : World) (hr0 : Kd.C (Kd.int .u8) w A0 l0.length l0) (hc0 : l0.length ≤ c0) (hr1 : Kd.C (Kd.int .u8) w A1 l1.length l1) (hc1 : l1.length ≤ c1) (h : laws_eqByteS.f k l0 l1 = some r) :
    Calls Try.prog 34 #[.slice A0 l0.length c0, .slice A1 l1.length c1] w fun e w' => e = .returned (.bool r) ∧ Drawn0 w w' := by
  have HR0 := Aside0.mk hr0
  have HC0 := Aside0.mk hc0
  clear hr0 hc0
  have HR1 := Aside0.mk hr1
  have HC1 := Aside0.mk hc1
  clear hr1 hc1
  have H : (if (l0.length : Int) = (l1.length : Int) then (laws_eqByteS.l0 k l0 l1 0) else (some false)) = some r := h
  clear h
  by_cases c3 : (l0.length : Int) = (l1.length : Int)
  · rw [if_pos c3] at H
    have c3b0 : ((l0.length : Int) == (l1.length : Int)) = true := beq_iff_eq.mpr c3
    have c3b1 : ((l0.length : Int) != (l1.length : Int)) = false := bne_eq_false_iff_eq.mpr c3
    have c3b2 : (l0.length == l1.length) = true := by first | simpa using c3 | (simp at c3 ⊢; omega)
    clear c3
    have H' := Aside0.mk H
    clear H
    go_enter Try.func34, Try.ntmps34
    go_wp2
    repeat (go_quiet (fail); try go_wp2)
    go_loopg [5] k (fun kq v5 w' => ∃ (x5_1 : Int), v5 = .int .i64 x5_1 ∧ Aside0 (laws_eqByteS.l0 kq l0 l1 x5_1 = some r) ∧ Aside0 (kq ≤ k) ∧ Drawn0 w w')
    case atStart => exact ⟨(0), (by first | rfl | (simp; done) | (simp [*]; done)), H', ⟨Nat.le_refl _⟩, by repeat (first | exact Drawn0.refl _ | apply Drawn0.step)⟩
    case round =>
      clear H'
      try clear c1
      try clear p2
      try clear c3
      try clear c3b0
      try clear c3b1
      try clear c3b2
      obtain ⟨x5_1, rfl, HA, HK1, ⟨m1, rfl⟩⟩ := hrel
      cases gk with
      | zero => exact absurd HA.out (by simp [laws_eqByteS.l0])
      | succ k1 =>
        have H := HA.out
        clear HA
        simp only [laws_eqByteS.l0] at H
        by_cases c4 : x5_1 < (l0.length : Int)
        · rw [if_pos c4] at H
          have c4b0 : decide (x5_1 < (l0.length : Int)) = true := decide_eq_true c4
          clear c4
          by_cases c5 : 0 ≤ x5_1
          · rw [if_pos c5] at H
            have c5b0 : decide (0 ≤ x5_1) = true := decide_eq_true c5
            clear c5
            by_cases c6 : x5_1 < (l1.length : Int)
            · rw [if_pos c6] at H
              have c6b0 : decide (x5_1 < (l1.length : Int)) = true := decide_eq_true c6
              clear c6
              by_cases c7 : (rd l0 x5_1) = (rd l1 x5_1)
              · rw [if_pos c7] at H
                have c7b0 : ((rd l0 x5_1) == (rd l1 x5_1)) = true := beq_iff_eq.mpr c7
                have c7b1 : ((rd l0 x5_1) != (rd l1 x5_1)) = false := bne_eq_false_iff_eq.mpr c7
                clear c7
                have H' := Aside0.mk H
                clear H
                have p295 : 0 ≤ (x5_1 : Int) := of_decide_eq_true (by first | (with_reducible assumption) | assumption)
                have q295 : x5_1 < (l0.length : Int) := of_decide_eq_true (by first | (with_reducible assumption) | assumption)
                obtain ⟨ad295, e295, hx295_0⟩ := Kd.at_int HR0.out x5_1 p295 q295
                cases e295
                replace p295 := eq_true p295
                replace q295 := eq_true q295
                have p296 : 0 ≤ (x5_1 : Int) := of_decide_eq_true (by first | (with_reducible assumption) | assumption)
                have q296 : x5_1 < (l1.length : Int) := of_decide_eq_true (by first | (with_reducible assumption) | assumption)
                obtain ⟨ad296, e296, hx296_0⟩ := Kd.at_int HR1.out x5_1 p296 q296
                cases e296
                replace p296 := eq_true p296
                replace q296 := eq_true q296
                go_wp2
                repeat (go_quiet (fail); try go_wp2)
                go_roundg k1
                case measure => have := HK1.out; omega
                case rel => exact ⟨(wrap64 (x5_1 + 1)), (by first | rfl | (simp; done) | (simp [*]; done)), H', ⟨by have := HK1.out; omega⟩, by repeat (first | exact Drawn0.refl _ | apply Drawn0.step)⟩
              · rw [if_neg c7] at H
                have c7b0 : ((rd l0 x5_1) == (rd l1 x5_1)) = false := beq_eq_false_iff_ne.mpr c7
                have c7b1 : ((rd l0 x5_1) != (rd l1 x5_1)) = true := bne_iff_ne.mpr c7
                obtain rfl := Option.some.inj H
                have p295 : 0 ≤ (x5_1 : Int) := of_decide_eq_true (by first | (with_reducible assumption) | assumption)
                have q295 : x5_1 < (l0.length : Int) := of_decide_eq_true (by first | (with_reducible assumption) | assumption)
                obtain ⟨ad295, e295, hx295_0⟩ := Kd.at_int HR0.out x5_1 p295 q295
                cases e295
                replace p295 := eq_true p295
                replace q295 := eq_true q295
                have p296 : 0 ≤ (x5_1 : Int) := of_decide_eq_true (by first | (with_reducible assumption) | assumption)
                have q296 : x5_1 < (l1.length : Int) := of_decide_eq_true (by first | (with_reducible assumption) | assumption)
                obtain ⟨ad296, e296, hx296_0⟩ := Kd.at_int HR1.out x5_1 p296 q296
                cases e296
                replace p296 := eq_true p296
                replace q296 := eq_true q296
                go_wp2
                repeat (go_quiet (fail); try go_wp2)
                go_ret
                exact ⟨by first | rfl | (simp; done) | (simp [*]; done), by repeat (first | exact Drawn0.refl _ | apply Drawn0.step)⟩
            · rw [if_neg c6] at H
              exact absurd H (by simp)
          · rw [if_neg c5] at H
            exact absurd H (by simp)
        · rw [if_neg c4] at H
          have c4b0 : decide (x5_1 < (l0.length : Int)) = false := decide_eq_false c4
          clear c4
          obtain rfl := Option.some.inj H
          go_wp2
          repeat (go_quiet (fail); try go_wp2)
          go_ret
          exact ⟨by first | rfl | (simp; done) | (simp [*]; done), by repeat (first | exact Drawn0.refl _ | apply Drawn0.step)⟩
  · rw [if_neg c3] at H
    have c3b0 : ((l0.length : Int) == (l1.length : Int)) = false := beq_eq_false_iff_ne.mpr c3
    have c3b1 : ((l0.length : Int) != (l1.length : Int)) = true := bne_iff_ne.mpr c3
    have c3b2 : (l0.length == l1.length) = false := by first | simpa using c3 | (simp at c3 ⊢; omega)
    obtain rfl := Option.some.inj H
    go_enter Try.func34, Try.ntmps34
    go_wp2
    repeat (go_quiet (fail); try go_wp2)
    go_ret
    exact ⟨by first | rfl | (simp; done) | (simp [*]; done), by repeat (first | exact Drawn0.refl _ | apply Drawn0.step)⟩

end Go.Proofs.Ytolpkckaijeahaa.PFnExactLogPieces
