-- Written for this claim by a program of this session: a scratch copy of the kit's print with patches of this session.
import Derived.Test.YtodblpadklheaaaDoorPFnExactReadKeyx0
import Derived.Test.YtodblpadklheaaaDoorPFnExactReadKeyx6
import Derived.Test.YtodblpadklheaaaDoorPFnExactReadKeyx7
namespace Go.Proofs.YtodblpadklheaaaDoor.PFnExactReadKey
open Go.RowKit Go.Proofs.YtodblpadklheaaaDoorW.PrintWords Go.Proofs.YtodblpadklheaaaDoorW.PrintLast Go.Proofs.YtodblpadklheaaaDoorW.PrintMore
attribute [local go_sem] max2_int min2_int max_two min_two max_three min_three max_four min_four hw_string_geq hw_string_gtr hw_string_leq   -- for this text's walks alone
set_option linter.unusedVariables false
set_option linter.unusedSimpArgs false

/-! ### impl_ReadKey: function 25 -/
mutual
def impl_ReadKey.j0 : Nat → List Int → Int → Int → Bool → Option (ByteArray × (List (S87)) × Int × Bool)
  | 0, _, _, _, _ => none
  | k + 1, x0, x4, x5, x30 => if x30 = true then (some ((⟨#[]⟩ : ByteArray), ([] : List (S87)), 0, false)) else (if 0 ≤ x4 then (if x4 ≤ (x0.length : Int) then ((strings_Cut.f (strOfNums (x0.take (x4 : Int).toNat)) (⟨#[0]⟩ : ByteArray)).bind fun bt193 => (impl_ReadKey.l0 k x0 bt193.2.1 bt193.1 ([] : List (S87)) x5)) else (none)) else (none))
def impl_ReadKey.l0 : Nat → List Int → ByteArray → ByteArray → List (S87) → Int → Option (ByteArray × (List (S87)) × Int × Bool)
  | 0, _, _, _, _, _ => none
  | k + 1, x0, x8, x197000, x197001, x197002 => if x8.toList = ([] : List UInt8) then (impl_ReadKey.j2 k x0 x8 false x197000 x197001 x197002) else (impl_ReadKey.j2 k x0 x8 (decide ((x197001.length : Int) ≤ 4)) x197000 x197001 x197002)
def impl_ReadKey.j2 : Nat → List Int → ByteArray → Bool → ByteArray → List (S87) → Int → Option (ByteArray × (List (S87)) × Int × Bool)
  | 0, _, _, _, _, _, _ => none
  | k + 1, x0, x8, x51, x197000, x197001, x197002 => if x51 = true then ((strings_Cut.f x8 (⟨#[0]⟩ : ByteArray)).bind fun bt197 => ((strings_TrimPrefix.f bt197.1 (⟨#[2]⟩ : ByteArray)).bind fun t200 => ((strings_Cut.f t200 (⟨#[1]⟩ : ByteArray)).bind fun bt201 => (if x197001.length < 4398046511104 then (impl_ReadKey.l0 k x0 bt197.2.1 x197000 (x197001 ++ [(⟨bt201.1, bt201.2.1⟩ : S87)]) x197002) else (none))))) else ((impl_GoodKey.f k x197000 x197001 x197002).bind fun t207 => (if t207 = true then ((impl_keyBytes.f k x197000 x197001 x197002).bind fun t208 => ((bytes_Equal.f t208 x0).bind fun t211 => (if t211 = true then (some (x197000, x197001, x197002, true)) else (some ((⟨#[]⟩ : ByteArray), ([] : List (S87)), 0, false))))) else (some ((⟨#[]⟩ : ByteArray), ([] : List (S87)), 0, false))))
end
def impl_ReadKey.f (k : Nat) (l0 : List Int) : Option (ByteArray × (List (S87)) × Int × Bool) := (impl_ReadFixed.f k l0 (wrap64 ((wrap64 ((l0.length : Int) - 9)) + 1)) 8).bind fun bt190 => (if bt190.2 = true then (impl_ReadKey.j0 k l0 (wrap64 ((l0.length : Int) - 9)) bt190.1 (decide ((wrap64 ((l0.length : Int) - 9)) < 0))) else (impl_ReadKey.j0 k l0 (wrap64 ((l0.length : Int) - 9)) bt190.1 true))
theorem impl_ReadKey.mono_l : ∀ k, (∀ y0 y1 y2 y3, LeO (impl_ReadKey.j0 k y0 y1 y2 y3) (impl_ReadKey.j0 (k + 1) y0 y1 y2 y3)) ∧ (∀ y0 y1 y2 y3 y4, LeO (impl_ReadKey.l0 k y0 y1 y2 y3 y4) (impl_ReadKey.l0 (k + 1) y0 y1 y2 y3 y4)) ∧ (∀ y0 y1 y2 y3 y4 y5, LeO (impl_ReadKey.j2 k y0 y1 y2 y3 y4 y5) (impl_ReadKey.j2 (k + 1) y0 y1 y2 y3 y4 y5))
  | 0 => ⟨fun _ _ _ _ r h => by simp [impl_ReadKey.j0] at h, fun _ _ _ _ _ r h => by simp [impl_ReadKey.l0] at h, fun _ _ _ _ _ _ r h => by simp [impl_ReadKey.j2] at h⟩
  | k + 1 => by
    obtain ⟨ih0, ih1, ih2⟩ := impl_ReadKey.mono_l k
    refine ⟨?_, ?_, ?_⟩
    · intro y0 y1 y2 y3
      unfold impl_ReadKey.j0
      repeat' first
      | (with_reducible exact ih0 _ _ _ _)
      | (with_reducible exact ih1 _ _ _ _ _)
      | (with_reducible exact ih2 _ _ _ _ _ _)
      | (with_reducible exact impl_GoodKey.mono _ _ _ _)
      | (with_reducible exact impl_ReadFixed.mono _ _ _ _)
      | (with_reducible exact impl_keyBytes.mono _ _ _ _)
      | (with_reducible exact LeO.refl _)
      | (with_reducible exact LeO.none _)
      | (with_reducible refine LeO.ite ?_ ?_)
      | (with_reducible refine LeO.bind ?_ (fun _ => ?_))
      | exact ih0 _ _ _ _
      | exact ih1 _ _ _ _ _
      | exact ih2 _ _ _ _ _ _
      | exact impl_GoodKey.mono _ _ _ _
      | exact impl_ReadFixed.mono _ _ _ _
      | exact impl_keyBytes.mono _ _ _ _
      | exact LeO.none _
      | refine LeO.ite ?_ ?_
      | refine LeO.bind ?_ (fun _ => ?_)
    · intro y0 y1 y2 y3 y4
      unfold impl_ReadKey.l0
      repeat' first
      | (with_reducible exact ih0 _ _ _ _)
      | (with_reducible exact ih1 _ _ _ _ _)
      | (with_reducible exact ih2 _ _ _ _ _ _)
      | (with_reducible exact impl_GoodKey.mono _ _ _ _)
      | (with_reducible exact impl_ReadFixed.mono _ _ _ _)
      | (with_reducible exact impl_keyBytes.mono _ _ _ _)
      | (with_reducible exact LeO.refl _)
      | (with_reducible exact LeO.none _)
      | (with_reducible refine LeO.ite ?_ ?_)
      | (with_reducible refine LeO.bind ?_ (fun _ => ?_))
      | exact ih0 _ _ _ _
      | exact ih1 _ _ _ _ _
      | exact ih2 _ _ _ _ _ _
      | exact impl_GoodKey.mono _ _ _ _
      | exact impl_ReadFixed.mono _ _ _ _
      | exact impl_keyBytes.mono _ _ _ _
      | exact LeO.none _
      | refine LeO.ite ?_ ?_
      | refine LeO.bind ?_ (fun _ => ?_)
    · intro y0 y1 y2 y3 y4 y5
      unfold impl_ReadKey.j2
      repeat' first
      | (with_reducible exact ih0 _ _ _ _)
      | (with_reducible exact ih1 _ _ _ _ _)
      | (with_reducible exact ih2 _ _ _ _ _ _)
      | (with_reducible exact impl_GoodKey.mono _ _ _ _)
      | (with_reducible exact impl_ReadFixed.mono _ _ _ _)
      | (with_reducible exact impl_keyBytes.mono _ _ _ _)
      | (with_reducible exact LeO.refl _)
      | (with_reducible exact LeO.none _)
      | (with_reducible refine LeO.ite ?_ ?_)
      | (with_reducible refine LeO.bind ?_ (fun _ => ?_))
      | exact ih0 _ _ _ _
      | exact ih1 _ _ _ _ _
      | exact ih2 _ _ _ _ _ _
      | exact impl_GoodKey.mono _ _ _ _
      | exact impl_ReadFixed.mono _ _ _ _
      | exact impl_keyBytes.mono _ _ _ _
      | exact LeO.none _
      | refine LeO.ite ?_ ?_
      | refine LeO.bind ?_ (fun _ => ?_)
theorem impl_ReadKey.mono : ∀ a0 k, LeO (impl_ReadKey.f k a0) (impl_ReadKey.f (k + 1) a0) := by
  intro a0 k
  obtain ⟨ih0, ih1, ih2⟩ := impl_ReadKey.mono_l k
  unfold impl_ReadKey.f
  repeat' first
      | (with_reducible exact ih0 _ _ _ _)
      | (with_reducible exact ih1 _ _ _ _ _)
      | (with_reducible exact ih2 _ _ _ _ _ _)
      | (with_reducible exact impl_GoodKey.mono _ _ _ _)
      | (with_reducible exact impl_ReadFixed.mono _ _ _ _)
      | (with_reducible exact impl_keyBytes.mono _ _ _ _)
      | (with_reducible exact LeO.refl _)
      | (with_reducible exact LeO.none _)
      | (with_reducible refine LeO.ite ?_ ?_)
      | (with_reducible refine LeO.bind ?_ (fun _ => ?_))
      | exact ih0 _ _ _ _
      | exact ih1 _ _ _ _ _
      | exact ih2 _ _ _ _ _ _
      | exact impl_GoodKey.mono _ _ _ _
      | exact impl_ReadFixed.mono _ _ _ _
      | exact impl_keyBytes.mono _ _ _ _
      | exact LeO.none _
      | refine LeO.ite ?_ ?_
      | refine LeO.bind ?_ (fun _ => ?_)
set_option maxHeartbeats 8000000 in
set_option maxRecDepth 100000 in
theorem impl_ReadKey.calls (k : Nat) (A0 : Option Addr) (c0 : Nat) (l0 : List Int) (r1 : ByteArray) (r2 : List (S87)) (r3 : Int) (r4 : Bool) (w : World) (hr0 : Kd.C (Kd.int .u8) w A0 l0.length l0) (hc0 : l0.length ≤ c0) (h : impl_ReadKey.f k l0 = some (r1, r2, r3, r4)) :
    Calls Tryd.prog 25 #[.slice A0 l0.length c0] w fun e w' => ∃ v1_ : Value, e = .returned (.tuple #[.agg #[.string r1, v1_, .int .i64 r3], .bool r4]) ∧ Kd.R k87 87 w' w.heap.size (fun _ => True) v1_ r2 ∧ Below w.heap.size w w' := by
  have hu31 := Tryd.underlying31
  have hu87 := Tryd.underlying87
  have HR0 := Aside0.mk hr0
  have HC0 := Aside0.mk hc0
  clear hr0 hc0
  have HB := Aside0.mk (Below.refl w.heap.size w)
  have H : ((impl_ReadFixed.f k l0 (wrap64 ((wrap64 ((l0.length : Int) - 9)) + 1)) 8).bind fun bt190 => (if bt190.2 = true then (impl_ReadKey.j0 k l0 (wrap64 ((l0.length : Int) - 9)) bt190.1 (decide ((wrap64 ((l0.length : Int) - 9)) < 0))) else (impl_ReadKey.j0 k l0 (wrap64 ((l0.length : Int) - 9)) bt190.1 true))) = some (r1, r2, r3, r4) := h
  clear h
  replace H := Option.bind_eq_some_iff.mp H
  obtain ⟨⟨t190, t191⟩, A20, H⟩ := H
  replace H : (if t191 = true then (impl_ReadKey.j0 k l0 (wrap64 ((l0.length : Int) - 9)) t190 (decide ((wrap64 ((l0.length : Int) - 9)) < 0))) else (impl_ReadKey.j0 k l0 (wrap64 ((l0.length : Int) - 9)) t190 true)) = some (r1, r2, r3, r4) := H
  have A2 := Aside0.mk A20
  clear A20
  have HC3 := Aside0.mk H
  clear H
  go_enter Tryd.func25, Tryd.ntmps25
  go_upto_region 3 with (first | ((with_reducible refine gate_dst (N := 2) rfl ?_); (try (refine gate_guard (by rfl) ?_; dsimp only)); refine box_event ?hg (N := 2) ?hd (cs := #[.string (⟨#[]⟩ : ByteArray), .slice none 0 0, .int .i64 0]) (t := 31) ?hr ?_; (case hd => rfl); (case hg => rfl); (case hr => first | (go_simp; done) | (go_simp; rfl)); intro gb189 hg w4 hbox hb; have n0_ := Aside0.mk (below_step (by repeat (first | (with_reducible first | exact HB.out | apply below_alloc | apply pw_below_drewN | apply below_drew1) | exact HB.out)) hb); have n1_ := Aside0.mk (hbox); have n2_ := Aside0.mk ((by rw [hg]; exact (below_size (by repeat (first | (with_reducible first | exact HB.out | apply below_alloc | apply pw_below_drewN | apply below_drew1) | exact HB.out))) : w.heap.size ≤ gb189)); have n3_ := Aside0.mk ((by rw [hg]; exact (below_size (by repeat (first | (with_reducible first | exact HB.out | apply below_alloc | apply pw_below_drewN | apply below_drew1) | exact HB.out))) : w.heap.size ≤ gb189)); clear HB; have HB := n0_; have BK189 := n1_; have GW189 := n2_; have GE189 := n3_; clear n0_ n1_ n2_ n3_; clear hb hbox hg) | ((with_reducible refine gate_callee (f := 54) rfl ?_); refine goesL_ (some 22) rfl rfl Tryd.func54 (by kernel_rfl) rfl #[.slice A0 l0.length c0, .int .i64 (wrap64 ((wrap64 ((l0.length : Int) - 9)) + 1)), .int .i64 8] rfl (by (try simp only [List.map_toArray, List.map_cons, List.map_nil]); first | done | rfl | (simp only [List.length_drop, List.length_take]; rfl)) ?_; (with_reducible refine (impl_ReadFixed.calls k _ _ l0 (wrap64 ((wrap64 ((l0.length : Int) - 9)) + 1)) 8 t190 t191 _ ?side1 ?side2 A2.out).mono ?_); (case side1 => repeat (first | exact (Kd.C_below HR0.out HB.out) | (with_reducible refine Kd.C_alloc ?_ _) | (with_reducible refine Kd.C_drewN ?_ _) | (with_reducible refine Kd.C_drew ?_))); (case side2 => exact HC0.out); rintro e w' ⟨rfl, ⟨nd, rfl⟩⟩; refine ⟨_, rfl, ?_⟩))
  (try simp only [Act.put, List.setIfInBounds_toArray, List.set_cons_zero, List.set_cons_succ])
  go_cut [30] (fun v30 wc => ∃ (kq : Nat) (x30_2 : Bool), v30 = .bool x30_2 ∧ Aside0 (impl_ReadKey.j0 kq l0 (wrap64 ((l0.length : Int) - 9)) t190 x30_2 = some (r1, r2, r3, r4)) ∧ Aside0 (kq ≤ k) ∧ Aside0 (wc.heap[gb189]? = some (.cells #[.string (⟨#[]⟩ : ByteArray), (.slice none 0 0), .int .i64 0] 31 (0, 0))) ∧ Aside0 (Below w.heap.size w wc))
  case first =>
    have H := HC3.out
    clear HC3
    by_cases c5 : t191 = true
    · subst c5
      have H1 : (impl_ReadKey.j0 k l0 (wrap64 ((l0.length : Int) - 9)) t190 (decide ((wrap64 ((l0.length : Int) - 9)) < 0))) = some (r1, r2, r3, r4) := by rw [if_pos rfl] at H; exact H
      clear H
      have H := H1
      clear H1
      have H' := Aside0.mk H
      clear H
      go_wp2
      go_meet
      case rel => exact ⟨_, (decide ((wrap64 ((l0.length : Int) - 9)) < 0)), (by first | rfl | (simp; done) | (simp [*]; done)), H', ⟨by first | omega | exact Nat.le_refl _⟩, ⟨by (with_reducible repeat (first | refine blk_drewN ?_ _ | refine blk_drew ?_ | refine blk_alloc ?_ _)); exact BK189.out⟩, ⟨by repeat (first | (with_reducible first | exact HB.out | apply below_alloc | apply pw_below_drewN | apply below_drew1 | refine below_set ?_ GE189.out) | exact HB.out)⟩⟩
    · replace c5 := Bool.eq_false_iff.mpr c5
      subst c5
      have H1 : (impl_ReadKey.j0 k l0 (wrap64 ((l0.length : Int) - 9)) t190 true) = some (r1, r2, r3, r4) := by rw [if_neg (show ¬ (false = true) by decide)] at H; exact H
      clear H
      have H := H1
      clear H1
      have H' := Aside0.mk H
      clear H
      go_wp2
      go_meet
      case rel => exact ⟨_, (true), (by first | rfl | (simp; done) | (simp [*]; done)), H', ⟨by first | omega | exact Nat.le_refl _⟩, ⟨by (with_reducible repeat (first | refine blk_drewN ?_ _ | refine blk_drew ?_ | refine blk_alloc ?_ _)); exact BK189.out⟩, ⟨by repeat (first | (with_reducible first | exact HB.out | apply below_alloc | apply pw_below_drewN | apply below_drew1 | refine below_set ?_ GE189.out) | exact HB.out)⟩⟩
  case rest =>
    clear HC3
    try clear c2
    try clear p2
    try clear c5
    obtain ⟨kq, x30_2, rfl, HA, HJ2, BK189, HB⟩ := hcut
    cases kq with
    | zero => exact absurd HA.out (by simp [impl_ReadKey.j0])
    | succ kj2 =>
      have H := HA.out
      clear HA
      simp only [impl_ReadKey.j0] at H
      by_cases c6 : x30_2 = true
      · subst c6
        have H1 : (some ((⟨#[]⟩ : ByteArray), ([] : List (S87)), 0, false)) = some (r1, r2, r3, r4) := by rw [if_pos rfl] at H; exact H
        clear H
        have H := H1
        clear H1
        simp only [Option.some.injEq, Prod.mk.injEq] at H
        obtain ⟨rfl, rfl, rfl, rfl⟩ := H
        have hcz7_0 : wc.cell? ⟨gb189, 0, none⟩ = some (.string (⟨#[]⟩ : ByteArray)) := (blk_cell BK189.out 0).trans rfl
        have hcz7_1 : wc.cell? ⟨gb189, 1, none⟩ = some (.slice none 0 0) := (blk_cell BK189.out 1).trans rfl
        have hcz7_2 : wc.cell? ⟨gb189, 2, none⟩ = some (.int .i64 0) := (blk_cell BK189.out 2).trans rfl
        have hfz7_0 := blk_frozen BK189.out 0
        have hfz7_1 := blk_frozen BK189.out 1
        have hfz7_2 := blk_frozen BK189.out 2
        go_wp2
        refine bodyPost_ret (results_ct rfl _ _ gb189 31 #[.string (⟨#[]⟩ : ByteArray), .slice none 0 0, .int .i64 0] (0, 0) _ rfl (by (with_reducible repeat (first | refine blk_drewN ?_ _ | refine blk_drew ?_ | refine blk_alloc ?_ _)); refine blk_put (cs := #[.string (⟨#[]⟩ : ByteArray), .slice none 0 0, .int .i64 0]) ?_ 2 _ rfl; (with_reducible repeat (first | refine blk_drewN ?_ _ | refine blk_drew ?_ | refine blk_alloc ?_ _)); refine blk_put (cs := #[.string (⟨#[]⟩ : ByteArray), .slice none 0 0, .int .i64 0]) ?_ 1 _ rfl; (with_reducible repeat (first | refine blk_drewN ?_ _ | refine blk_drew ?_ | refine blk_alloc ?_ _)); refine blk_put (cs := #[.string (⟨#[]⟩ : ByteArray), .slice none 0 0, .int .i64 0]) ?_ 0 _ rfl; (with_reducible repeat (first | refine blk_drewN ?_ _ | refine blk_drew ?_ | refine blk_alloc ?_ _)); exact BK189.out) Tryd.underlying31 rfl (by kernel_rfl)) rfl ?_
        exact ⟨_, by first | rfl | (simp [errW_none, errW_some] <;> rfl) | (simp [*, errW_none, errW_some] <;> rfl), by first | exact Kd.R_nil _ _ _ _ _ | exact Kd.N_nil _ _ _ _ _ | exact Kd.V_nil _ _ _ _ _ | exact Kd.Q_nil _ _ _ _ _ | exact Kd.S_nil _ _ _ _ _, by repeat (first | (with_reducible first | exact HB.out | apply below_alloc | apply pw_below_drewN | apply below_drew1 | refine below_set ?_ GE189.out) | exact HB.out)⟩
      · replace c6 := Bool.eq_false_iff.mpr c6
        subst c6
        have H1 : (if 0 ≤ (wrap64 ((l0.length : Int) - 9)) then (if (wrap64 ((l0.length : Int) - 9)) ≤ (l0.length : Int) then ((strings_Cut.f (strOfNums (l0.take ((wrap64 ((l0.length : Int) - 9)) : Int).toNat)) (⟨#[0]⟩ : ByteArray)).bind fun bt193 => (impl_ReadKey.l0 kj2 l0 bt193.2.1 bt193.1 ([] : List (S87)) t190)) else (none)) else (none)) = some (r1, r2, r3, r4) := by rw [if_neg (show ¬ (false = true) by decide)] at H; exact H
        clear H
        have H := H1
        clear H1
        obtain ⟨ji8, hji8⟩ : ∃ j_ : Int, (wrap64 ((l0.length : Int) - 9)) = j_ := ⟨_, rfl⟩
        replace H : (if 0 ≤ (ji8) then (if (ji8) ≤ (l0.length : Int) then ((strings_Cut.f (strOfNums (l0.take ((ji8) : Int).toNat)) (⟨#[0]⟩ : ByteArray)).bind fun bt193 => (impl_ReadKey.l0 kj2 l0 bt193.2.1 bt193.1 ([] : List (S87)) t190)) else (none)) else (none)) = some (r1, r2, r3, r4) := by first | (rw [hji8] at H; exact H) | (simp only [hji8] at H ⊢; exact H)
        have hji8w : (IntKind.i64.wrap ((l0.length : Int) - 9)) = ji8 := (i64_w _).trans hji8
        by_cases c9 : 0 ≤ (ji8)
        · rw [if_pos c9] at H
          have c9b0 := eq_true c9
          have c9b1 : decide (0 ≤ (ji8)) = true := decide_eq_true c9
          clear c9
          by_cases c10 : (ji8) ≤ (l0.length : Int)
          · rw [if_pos c10] at H
            have c10b0 := eq_true c10
            have c10b1 : decide ((ji8) ≤ (l0.length : Int)) = true := decide_eq_true c10
            clear c10
            replace H := Option.bind_eq_some_iff.mp H
            obtain ⟨⟨t193, t194, t195⟩, A110, H⟩ := H
            replace H : (impl_ReadKey.l0 kj2 l0 t194 t193 ([] : List (S87)) t190) = some (r1, r2, r3, r4) := H
            have A11 := Aside0.mk A110
            clear A110
            have H' := Aside0.mk H
            clear H
            obtain ⟨i012, hi012, _, hsz12, _⟩ := info_parts info5
            obtain ⟨hcut12, hA12, hC12⟩ := print_take_of (P := Tryd.prog) (Value.int .u8) 0 26 5 .i64 Tryd.underlying26 hi012 hsz12 A0 c0 l0 (ji8) (of_decide_eq_true (by first | (with_reducible assumption) | assumption)) (of_decide_eq_true (by first | (with_reducible assumption) | assumption)) HC0.out
            have HR192 := Aside0.mk (Kd.C_of_reads (h1 := fun _ => rfl) (hA12 _ (Kd.reads_of_C HR0.out)))
            have HC192 := Aside0.mk hC12
            clear hA12 hC12 hi012 hsz12
            have hSL192 := Aside0.mk (show (l0.take ((ji8) : Int).toNat).length = (ji8).toNat from (by rw [List.length_take]; have h_ : ((ji8) : Int) ≤ (l0.length : Int) := of_decide_eq_true (by first | (with_reducible assumption) | assumption); omega))
            have hcv13 := Kd.C_string (P := Tryd.prog) (A := A0) (c := c0) Tryd.underlying26 Tryd.underlying5 Tryd.underlying9 (Kd.C_below HR192.out HB.out); (try (have hcv13b := hcv13; rw [hSL192.out] at hcv13b))
            go_wp2_with (first | ((with_reducible refine gate_callee (f := 55) rfl ?_); refine goesL_ (some 37) rfl rfl Tryd.func55 (by kernel_rfl) rfl #[.string (strOfNums (l0.take ((ji8) : Int).toNat)), .string (⟨#[0]⟩ : ByteArray)] rfl (by (try simp only [List.map_toArray, List.map_cons, List.map_nil]); first | done | (simp only [hji8]; rfl) | rfl | (simp only [List.length_drop, List.length_take]; rfl)) ?_; (with_reducible refine (strings_Cut.calls (strOfNums (l0.take ((ji8) : Int).toNat)) (⟨#[0]⟩ : ByteArray) t193 t194 t195 _ A11.out).mono ?_); rintro e w' ⟨rfl, ⟨nd, rfl⟩⟩; refine ⟨_, rfl, ?_⟩; (try (rw [drewN_self wc]; generalize hq_ : World.drewN wc _ = wc; have n0_ : Aside0 (wc.heap[gb189]? = some (.cells #[.string (⟨#[]⟩ : ByteArray), .slice none 0 0, .int .i64 0] 31 (0, 0))) := ⟨by rw [← hq_]; exact (by (with_reducible repeat (first | refine blk_drewN ?_ _ | refine blk_drew ?_ | refine blk_alloc ?_ _)); exact BK189.out)⟩; have n1_ : Aside0 (Below w.heap.size w wc) := ⟨by rw [← hq_]; exact (by repeat (first | (with_reducible first | exact HB.out | apply below_alloc | apply pw_below_drewN | apply below_drew1 | refine below_set ?_ GE189.out) | exact HB.out))⟩; clear BK189 HB hq_; have BK189 := n0_; have HB := n1_; clear n0_ n1_))) | ((with_reducible refine gate_dst (N := 10) rfl ?_); (try (refine gate_guard (by rfl) ?_; dsimp only)); refine box_event ?hg (N := 10) ?hd (cs := #[.string (⟨#[]⟩ : ByteArray), .slice none 0 0, .int .i64 0]) (t := 31) ?hr ?_; (case hd => rfl); (case hg => rfl); (case hr => first | (go_simp; done) | (go_simp; rfl)); intro gb196 hg w14 hbox hb; have n0_ := Aside0.mk (blk_below (g := gb189) (o := .cells #[.string (⟨#[]⟩ : ByteArray), .slice none 0 0, .int .i64 0] 31 (0, 0)) (by (with_reducible repeat (first | refine blk_drewN ?_ _ | refine blk_drew ?_ | refine blk_alloc ?_ _)); exact BK189.out) hb); have n1_ := Aside0.mk (below_step (by repeat (first | (with_reducible first | exact HB.out | apply below_alloc | apply pw_below_drewN | apply below_drew1 | refine below_set ?_ GE189.out) | exact HB.out)) hb); have n2_ := Aside0.mk (hbox); have n3_ := Aside0.mk ((by rw [hg]; exact (below_size (by repeat (first | (with_reducible first | exact HB.out | apply below_alloc | apply pw_below_drewN | apply below_drew1 | refine below_set ?_ GE189.out) | exact HB.out))) : w.heap.size ≤ gb196)); have n4_ := Aside0.mk ((by rw [hg]; exact (below_size (by repeat (first | (with_reducible first | exact HB.out | apply below_alloc | apply pw_below_drewN | apply below_drew1 | refine below_set ?_ GE189.out) | exact HB.out))) : w.heap.size ≤ gb196)); have n5_ := Aside0.mk ((by rw [hg]; exact Nat.ne_of_lt (blk_lt (g := gb189) (o := .cells #[.string (⟨#[]⟩ : ByteArray), .slice none 0 0, .int .i64 0] 31 (0, 0)) (by (with_reducible repeat (first | refine blk_drewN ?_ _ | refine blk_drew ?_ | refine blk_alloc ?_ _)); exact BK189.out)) : gb189 ≠ gb196)); have n6_ := Aside0.mk ((by rw [hg]; exact Nat.ne_of_gt (blk_lt (g := gb189) (o := .cells #[.string (⟨#[]⟩ : ByteArray), .slice none 0 0, .int .i64 0] 31 (0, 0)) (by (with_reducible repeat (first | refine blk_drewN ?_ _ | refine blk_drew ?_ | refine blk_alloc ?_ _)); exact BK189.out)) : gb196 ≠ gb189)); clear BK189; clear HB; have BK189 := n0_; have HB := n1_; have BK196 := n2_; have GW196 := n3_; have GE196 := n4_; have NB189_196 := n5_; have NB196_189 := n6_; clear n0_ n1_ n2_ n3_ n4_ n5_ n6_; clear hb hbox hg; have hnb15 := NB196_189.out; have hnc15 := NB189_196.out; have hcz16_0 : w14.cell? ⟨gb196, 0, none⟩ = some (.string (⟨#[]⟩ : ByteArray)) := (blk_cell BK196.out 0).trans rfl; have hcz16_1 : w14.cell? ⟨gb196, 1, none⟩ = some (.slice none 0 0) := (blk_cell BK196.out 1).trans rfl; have hcz16_2 : w14.cell? ⟨gb196, 2, none⟩ = some (.int .i64 0) := (blk_cell BK196.out 2).trans rfl; have hfz16_0 := blk_frozen BK196.out 0; have hfz16_1 := blk_frozen BK196.out 1; have hfz16_2 := blk_frozen BK196.out 2))
            go_loopg [8] kj2 (fun kq v8 w' => ∃ (x8_2 : ByteArray) (x197001_2 : List (S87)) (u197001 : Value), v8 = .string x8_2 ∧ Aside0 (impl_ReadKey.l0 kq l0 x8_2 t193 x197001_2 t190 = some (r1, r2, r3, r4)) ∧ Aside0 (kq ≤ kj2) ∧ Aside0 (Kd.R k87 87 w' w.heap.size (fun _ => True) u197001 x197001_2) ∧ Aside0 (w'.heap[gb189]? = some (.cells #[.string (⟨#[]⟩ : ByteArray), (.slice none 0 0), .int .i64 0] 31 (0, 0))) ∧ Aside0 (w'.heap[gb196]? = some (.cells #[.string t193, u197001, .int .i64 t190] 31 (0, 0))) ∧ Aside0 (Below w.heap.size w w'))
            case atStart => exact ⟨(t194), (([] : List (S87))), (.slice none 0 0), (by first | rfl | (simp; done) | (simp [*]; done)), H', ⟨Nat.le_refl _⟩, ⟨by first | exact Kd.R_nil _ _ _ _ _ | exact Kd.N_nil _ _ _ _ _ | exact Kd.V_nil _ _ _ _ _ | exact Kd.Q_nil _ _ _ _ _ | exact Kd.S_nil _ _ _ _ _⟩, ⟨by (with_reducible repeat (first | refine blk_drewN ?_ _ | refine blk_drew ?_ | refine blk_alloc ?_ _)); refine blk_far ?_ NB189_196.out _; (with_reducible repeat (first | refine blk_drewN ?_ _ | refine blk_drew ?_ | refine blk_alloc ?_ _)); refine blk_far ?_ NB189_196.out _; (with_reducible repeat (first | refine blk_drewN ?_ _ | refine blk_drew ?_ | refine blk_alloc ?_ _)); refine blk_far ?_ NB189_196.out _; (with_reducible repeat (first | refine blk_drewN ?_ _ | refine blk_drew ?_ | refine blk_alloc ?_ _)); exact BK189.out⟩, ⟨by (with_reducible repeat (first | refine blk_drewN ?_ _ | refine blk_drew ?_ | refine blk_alloc ?_ _)); refine blk_put (cs := #[.string t193, .slice none 0 0, .int .i64 0]) ?_ 2 _ rfl; (with_reducible repeat (first | refine blk_drewN ?_ _ | refine blk_drew ?_ | refine blk_alloc ?_ _)); refine blk_put (cs := #[.string t193, .slice none 0 0, .int .i64 0]) ?_ 1 _ rfl; (with_reducible repeat (first | refine blk_drewN ?_ _ | refine blk_drew ?_ | refine blk_alloc ?_ _)); refine blk_put (cs := #[.string (⟨#[]⟩ : ByteArray), .slice none 0 0, .int .i64 0]) ?_ 0 _ rfl; (with_reducible repeat (first | refine blk_drewN ?_ _ | refine blk_drew ?_ | refine blk_alloc ?_ _)); exact BK196.out⟩, ⟨by repeat (first | (with_reducible first | exact HB.out | apply below_alloc | apply pw_below_drewN | apply below_drew1 | refine below_set ?_ GE189.out | refine below_set ?_ GE196.out) | exact HB.out)⟩⟩
            case round =>
              clear H'
              try clear c1
              try clear hcv1
              try clear c2
              try clear p2
              try clear c5
              try clear c6
              try clear p6
              try clear c9
              try clear c9b0
              try clear c9b1
              try clear c10
              try clear c10b0
              try clear c10b1
              try clear hcv13
              try clear c15
              try clear hcz16_0
              try clear hcz16_1
              try clear hcz16_2
              try clear hcz7_0
              try clear hcz7_1
              try clear hcz7_2
              try clear hfz16_0
              try clear hfz16_1
              try clear hfz16_2
              try clear hfz7_0
              try clear hfz7_1
              try clear hfz7_2
              try clear p2
              obtain ⟨x8_2, x197001_2, u197001, rfl, HA, HK2, HO_197001, BK189, BK196, HB⟩ := hrel
              cases gk with
              | zero => exact absurd HA.out (by simp [impl_ReadKey.l0])
              | succ k2 =>
                have H := HA.out
                clear HA
                simp only [impl_ReadKey.l0] at H
                have HC17 := Aside0.mk H
                clear H
                go_upto_region 7 with (fail)
                go_cut [51] (fun v51 wc => ∃ (kq : Nat) (x51_16 : Bool), v51 = .bool x51_16 ∧ Aside0 (impl_ReadKey.j2 kq l0 x8_2 x51_16 t193 x197001_2 t190 = some (r1, r2, r3, r4)) ∧ Aside0 (kq ≤ k2) ∧ Aside0 (Kd.R k87 87 wc w.heap.size (fun _ => True) u197001 x197001_2) ∧ Aside0 (wc.heap[gb189]? = some (.cells #[.string (⟨#[]⟩ : ByteArray), (.slice none 0 0), .int .i64 0] 31 (0, 0))) ∧ Aside0 (wc.heap[gb196]? = some (.cells #[.string t193, u197001, .int .i64 t190] 31 (0, 0))) ∧ Aside0 (Below w.heap.size w wc))
                case first =>
                  have H := HC17.out
                  clear HC17
                  by_cases c18 : x8_2.toList = ([] : List UInt8)
                  · rw [if_pos c18] at H
                    have c18b0 : (x8_2.toList == ([] : List UInt8)) = true := beq_iff_eq.mpr c18
                    have c18b1 : (x8_2.toList != ([] : List UInt8)) = false := bne_eq_false_iff_eq.mpr c18
                    clear c18
                    (first | rw [c18b0] | (simp only [i64_w, i32_w]; rw [c18b0]) | skip)
                    have H' := Aside0.mk H
                    clear H
                    go_wp2
                    go_meet
                    case rel => exact ⟨_, (false), (by first | rfl | (simp; done) | (simp [*]; done)), H', ⟨by have := HJ2.out; have := HK2.out; first | omega | exact Nat.le_refl _⟩, ⟨by (with_reducible repeat (first | apply Kd.R_alloc | apply Kd.R_drewN | apply Kd.R_drew)); exact HO_197001.out⟩, ⟨by (with_reducible repeat (first | refine blk_drewN ?_ _ | refine blk_drew ?_ | refine blk_alloc ?_ _)); exact BK189.out⟩, ⟨by (with_reducible repeat (first | refine blk_drewN ?_ _ | refine blk_drew ?_ | refine blk_alloc ?_ _)); exact BK196.out⟩, ⟨by repeat (first | (with_reducible first | exact HB.out | apply below_alloc | apply pw_below_drewN | apply below_drew1 | refine below_set ?_ GE189.out | refine below_set ?_ GE196.out) | exact HB.out)⟩⟩
                  · rw [if_neg c18] at H
                    have c18b0 : (x8_2.toList == ([] : List UInt8)) = false := beq_eq_false_iff_ne.mpr c18
                    have c18b1 : (x8_2.toList != ([] : List UInt8)) = true := bne_iff_ne.mpr c18
                    (first | rw [c18b0] | (simp only [i64_w, i32_w]; rw [c18b0]) | skip)
                    have H' := Aside0.mk H
                    clear H
                    have hnb19 := NB196_189.out
                    have hnc19 := NB189_196.out
                    have hcz20_0 : wr.cell? ⟨gb196, 0, none⟩ = some (.string t193) := (blk_cell BK196.out 0).trans rfl
                    have hcz20_1 : wr.cell? ⟨gb196, 1, none⟩ = some (u197001) := (blk_cell BK196.out 1).trans rfl
                    have hcz20_2 : wr.cell? ⟨gb196, 2, none⟩ = some (.int .i64 t190) := (blk_cell BK196.out 2).trans rfl
                    have hfz20_0 := blk_frozen BK196.out 0
                    have hfz20_1 := blk_frozen BK196.out 1
                    have hfz20_2 := blk_frozen BK196.out 2
                    obtain ⟨Ao21, co21, eo21⟩ := Kd.R_slice HO_197001.out
                    subst eo21
                    go_wp2
                    go_meet
                    case rel => exact ⟨_, (decide ((x197001_2.length : Int) ≤ 4)), (by first | rfl | (simp; done) | (simp [*]; done)), H', ⟨by have := HJ2.out; have := HK2.out; first | omega | exact Nat.le_refl _⟩, ⟨by (with_reducible repeat (first | apply Kd.R_alloc | apply Kd.R_drewN | apply Kd.R_drew)); exact HO_197001.out⟩, ⟨by (with_reducible repeat (first | refine blk_drewN ?_ _ | refine blk_drew ?_ | refine blk_alloc ?_ _)); exact BK189.out⟩, ⟨by (with_reducible repeat (first | refine blk_drewN ?_ _ | refine blk_drew ?_ | refine blk_alloc ?_ _)); exact BK196.out⟩, ⟨by repeat (first | (with_reducible first | exact HB.out | apply below_alloc | apply pw_below_drewN | apply below_drew1 | refine below_set ?_ GE189.out | refine below_set ?_ GE196.out) | exact HB.out)⟩⟩
                case rest =>
                  clear HC17
                  try clear c1
                  try clear hcv1
                  try clear c2
                  try clear p2
                  try clear c5
                  try clear c6
                  try clear p6
                  try clear c9
                  try clear c9b0
                  try clear c9b1
                  try clear c10
                  try clear c10b0
                  try clear c10b1
                  try clear hcv13
                  try clear c15
                  try clear c18
                  try clear c18b0
                  try clear c18b1
                  try clear c19
                  try clear hcz16_0
                  try clear hcz16_1
                  try clear hcz16_2
                  try clear hcz20_0
                  try clear hcz20_1
                  try clear hcz20_2
                  try clear hcz7_0
                  try clear hcz7_1
                  try clear hcz7_2
                  try clear hfz16_0
                  try clear hfz16_1
                  try clear hfz16_2
                  try clear hfz20_0
                  try clear hfz20_1
                  try clear hfz20_2
                  try clear hfz7_0
                  try clear hfz7_1
                  try clear hfz7_2
                  try clear p2
                  try clear p6
                  obtain ⟨kq, x51_16, rfl, HA, HJ16, HO_197001, BK189, BK196, HB⟩ := hcut
                  cases kq with
                  | zero => exact absurd HA.out (by simp [impl_ReadKey.j2])
                  | succ kj16 =>
                    have H := HA.out
                    clear HA
                    simp only [impl_ReadKey.j2] at H
                    by_cases c22 : x51_16 = true
                    · subst c22
                      have H1 : ((strings_Cut.f x8_2 (⟨#[0]⟩ : ByteArray)).bind fun bt197 => ((strings_TrimPrefix.f bt197.1 (⟨#[2]⟩ : ByteArray)).bind fun t200 => ((strings_Cut.f t200 (⟨#[1]⟩ : ByteArray)).bind fun bt201 => (if x197001_2.length < 4398046511104 then (impl_ReadKey.l0 kj16 l0 bt197.2.1 t193 (x197001_2 ++ [(⟨bt201.1, bt201.2.1⟩ : S87)]) t190) else (none))))) = some (r1, r2, r3, r4) := by rw [if_pos rfl] at H; exact H
                      clear H
                      have H := H1
                      clear H1
                      replace H := Option.bind_eq_some_iff.mp H
                      obtain ⟨⟨t197, t198, t199⟩, A230, H⟩ := H
                      replace H : ((strings_TrimPrefix.f t197 (⟨#[2]⟩ : ByteArray)).bind fun t200 => ((strings_Cut.f t200 (⟨#[1]⟩ : ByteArray)).bind fun bt201 => (if x197001_2.length < 4398046511104 then (impl_ReadKey.l0 kj16 l0 t198 t193 (x197001_2 ++ [(⟨bt201.1, bt201.2.1⟩ : S87)]) t190) else (none)))) = some (r1, r2, r3, r4) := H
                      have A23 := Aside0.mk A230
                      clear A230
                      replace H := Option.bind_eq_some_iff.mp H
                      obtain ⟨t200, A240, H⟩ := H
                      replace H : ((strings_Cut.f t200 (⟨#[1]⟩ : ByteArray)).bind fun bt201 => (if x197001_2.length < 4398046511104 then (impl_ReadKey.l0 kj16 l0 t198 t193 (x197001_2 ++ [(⟨bt201.1, bt201.2.1⟩ : S87)]) t190) else (none))) = some (r1, r2, r3, r4) := H
                      have A24 := Aside0.mk A240
                      clear A240
                      replace H := Option.bind_eq_some_iff.mp H
                      obtain ⟨⟨t201, t202, t203⟩, A250, H⟩ := H
                      replace H : (if x197001_2.length < 4398046511104 then (impl_ReadKey.l0 kj16 l0 t198 t193 (x197001_2 ++ [(⟨t201, t202⟩ : S87)]) t190) else (none)) = some (r1, r2, r3, r4) := H
                      have A25 := Aside0.mk A250
                      clear A250
                      by_cases c26 : x197001_2.length < 4398046511104
                      · rw [if_pos c26] at H
                        have LMc26 := Aside0.mk c26
                        clear c26
                        obtain ⟨y204, hy204⟩ : ∃ y_ : List (S87), y_ = (x197001_2 ++ [(⟨t201, t202⟩ : S87)]) := ⟨_, rfl⟩
                        replace H : (impl_ReadKey.l0 kj16 l0 t198 t193 y204 t190) = some (r1, r2, r3, r4) := by first | (rw [hy204]; with_reducible exact H) | (have H2_ := (Option.bind_some _ _).symm.trans H; rw [hy204]; with_reducible exact H2_) | (have H2_ := (Option.bind_some _ _).symm.trans H; with_reducible exact H2_) | with_reducible exact H | (rw [hy204]; exact H) | exact H
                        have Ny204 := Aside0.mk hy204
                        clear hy204
                        have H' := Aside0.mk H
                        clear H
                        go_wp2_with (first | ((with_reducible refine gate_callee (f := 55) rfl ?_); refine goesL_ (some 54) rfl rfl Tryd.func55 (by kernel_rfl) rfl #[.string x8_2, .string (⟨#[0]⟩ : ByteArray)] rfl (by (try simp only [List.map_toArray, List.map_cons, List.map_nil]); first | done | rfl | (simp only [List.length_drop, List.length_take]; rfl)) ?_; (with_reducible refine (strings_Cut.calls x8_2 (⟨#[0]⟩ : ByteArray) t197 t198 t199 _ A23.out).mono ?_); rintro e w' ⟨rfl, ⟨nd, rfl⟩⟩; refine ⟨_, rfl, ?_⟩; (try (rw [drewN_self wc]; generalize hq_ : World.drewN wc _ = wc; have n0_ : Aside0 (Kd.R k87 87 wc w.heap.size (fun _ => True) u197001 x197001_2) := ⟨by rw [← hq_]; exact (by (with_reducible repeat (first | apply Kd.R_alloc | apply Kd.R_drewN | apply Kd.R_drew)); exact HO_197001.out)⟩; have n1_ : Aside0 (wc.heap[gb189]? = some (.cells #[.string (⟨#[]⟩ : ByteArray), .slice none 0 0, .int .i64 0] 31 (0, 0))) := ⟨by rw [← hq_]; exact (by (with_reducible repeat (first | refine blk_drewN ?_ _ | refine blk_drew ?_ | refine blk_alloc ?_ _)); exact BK189.out)⟩; have n2_ : Aside0 (wc.heap[gb196]? = some (.cells #[.string t193, u197001, .int .i64 t190] 31 (0, 0))) := ⟨by rw [← hq_]; exact (by (with_reducible repeat (first | refine blk_drewN ?_ _ | refine blk_drew ?_ | refine blk_alloc ?_ _)); exact BK196.out)⟩; have n3_ : Aside0 (Below w.heap.size w wc) := ⟨by rw [← hq_]; exact (by repeat (first | (with_reducible first | exact HB.out | apply below_alloc | apply pw_below_drewN | apply below_drew1 | refine below_set ?_ GE189.out | refine below_set ?_ GE196.out) | exact HB.out))⟩; clear HO_197001 BK189 BK196 HB hq_; have HO_197001 := n0_; have BK189 := n1_; have BK196 := n2_; have HB := n3_; clear n0_ n1_ n2_ n3_))) | ((with_reducible refine gate_callee (f := 56) rfl ?_); refine goesL_ (some 60) rfl rfl Tryd.func56 (by kernel_rfl) rfl #[.string t197, .string (⟨#[2]⟩ : ByteArray)] rfl (by (try simp only [List.map_toArray, List.map_cons, List.map_nil]); first | done | rfl | (simp only [List.length_drop, List.length_take]; rfl)) ?_; (with_reducible refine (strings_TrimPrefix.calls t197 (⟨#[2]⟩ : ByteArray) t200 _ A24.out).mono ?_); rintro e w' ⟨rfl, ⟨nd, rfl⟩⟩; refine ⟨_, rfl, ?_⟩; (try (rw [drewN_self wc]; generalize hq_ : World.drewN wc _ = wc; have n0_ : Aside0 (Kd.R k87 87 wc w.heap.size (fun _ => True) u197001 x197001_2) := ⟨by rw [← hq_]; exact (by (with_reducible repeat (first | apply Kd.R_alloc | apply Kd.R_drewN | apply Kd.R_drew)); exact HO_197001.out)⟩; have n1_ : Aside0 (wc.heap[gb189]? = some (.cells #[.string (⟨#[]⟩ : ByteArray), .slice none 0 0, .int .i64 0] 31 (0, 0))) := ⟨by rw [← hq_]; exact (by (with_reducible repeat (first | refine blk_drewN ?_ _ | refine blk_drew ?_ | refine blk_alloc ?_ _)); exact BK189.out)⟩; have n2_ : Aside0 (wc.heap[gb196]? = some (.cells #[.string t193, u197001, .int .i64 t190] 31 (0, 0))) := ⟨by rw [← hq_]; exact (by (with_reducible repeat (first | refine blk_drewN ?_ _ | refine blk_drew ?_ | refine blk_alloc ?_ _)); exact BK196.out)⟩; have n3_ : Aside0 (Below w.heap.size w wc) := ⟨by rw [← hq_]; exact (by repeat (first | (with_reducible first | exact HB.out | apply below_alloc | apply pw_below_drewN | apply below_drew1 | refine below_set ?_ GE189.out | refine below_set ?_ GE196.out) | exact HB.out))⟩; clear HO_197001 BK189 BK196 HB hq_; have HO_197001 := n0_; have BK189 := n1_; have BK196 := n2_; have HB := n3_; clear n0_ n1_ n2_ n3_))) | ((with_reducible refine gate_callee (f := 55) rfl ?_); refine goesL_ (some 61) rfl rfl Tryd.func55 (by kernel_rfl) rfl #[.string t200, .string (⟨#[1]⟩ : ByteArray)] rfl (by (try simp only [List.map_toArray, List.map_cons, List.map_nil]); first | done | rfl | (simp only [List.length_drop, List.length_take]; rfl)) ?_; (with_reducible refine (strings_Cut.calls t200 (⟨#[1]⟩ : ByteArray) t201 t202 t203 _ A25.out).mono ?_); rintro e w' ⟨rfl, ⟨nd, rfl⟩⟩; refine ⟨_, rfl, ?_⟩; (try (rw [drewN_self wc]; generalize hq_ : World.drewN wc _ = wc; have n0_ : Aside0 (Kd.R k87 87 wc w.heap.size (fun _ => True) u197001 x197001_2) := ⟨by rw [← hq_]; exact (by (with_reducible repeat (first | apply Kd.R_alloc | apply Kd.R_drewN | apply Kd.R_drew)); exact HO_197001.out)⟩; have n1_ : Aside0 (wc.heap[gb189]? = some (.cells #[.string (⟨#[]⟩ : ByteArray), .slice none 0 0, .int .i64 0] 31 (0, 0))) := ⟨by rw [← hq_]; exact (by (with_reducible repeat (first | refine blk_drewN ?_ _ | refine blk_drew ?_ | refine blk_alloc ?_ _)); exact BK189.out)⟩; have n2_ : Aside0 (wc.heap[gb196]? = some (.cells #[.string t193, u197001, .int .i64 t190] 31 (0, 0))) := ⟨by rw [← hq_]; exact (by (with_reducible repeat (first | refine blk_drewN ?_ _ | refine blk_drew ?_ | refine blk_alloc ?_ _)); exact BK196.out)⟩; have n3_ : Aside0 (Below w.heap.size w wc) := ⟨by rw [← hq_]; exact (by repeat (first | (with_reducible first | exact HB.out | apply below_alloc | apply pw_below_drewN | apply below_drew1 | refine below_set ?_ GE189.out | refine below_set ?_ GE196.out) | exact HB.out))⟩; clear HO_197001 BK189 BK196 HB hq_; have HO_197001 := n0_; have BK189 := n1_; have BK196 := n2_; have HB := n3_; clear n0_ n1_ n2_ n3_)); have hnb27 := NB196_189.out; have hnc27 := NB189_196.out; have hcz28_0 : wc.cell? ⟨gb196, 0, none⟩ = some (.string t193) := (blk_cell BK196.out 0).trans rfl; have hcz28_1 : wc.cell? ⟨gb196, 1, none⟩ = some (u197001) := (blk_cell BK196.out 1).trans rfl; have hcz28_2 : wc.cell? ⟨gb196, 2, none⟩ = some (.int .i64 t190) := (blk_cell BK196.out 2).trans rfl; have hfz28_0 := blk_frozen BK196.out 0; have hfz28_1 := blk_frozen BK196.out 1; have hfz28_2 := blk_frozen BK196.out 2) | ((with_reducible refine gate_builtin (b := .append) (xs := #[.tmp 66, .tmp 70]) rfl ?_); (try (refine gate_guard (by rfl) ?_; dsimp only)); at_builtin; refine Kd.R_append k87 (w0 := w) w.heap.size rfl (.tmp 66) (.tmp 70) 29 87 (.agg #[(.string ⟨#[]⟩), (.string ⟨#[]⟩)]) 32 rfl Tryd.underlying29 info87 rfl (by decide) (by omega) u197001 x197001_2 (⟨t201, t202⟩ : S87) [.string t201, .string t202] (fun _ => True) (fun _ => False) rfl rfl ?aP (fun _ hk => hk.elim) ?aF ?aO ?aB ?aS ?aL ?_; (case aP => exact k87_mkM _ _ _ (⟨t201, t202⟩ : S87)); (case aB => exact (by repeat (first | (with_reducible first | exact HB.out | apply below_alloc | apply pw_below_drewN | apply below_drew1 | refine below_set ?_ GE189.out | refine below_set ?_ GE196.out) | exact HB.out))); (case aF => exact (fun _ _ => trivial)); (case aO => exact (by (with_reducible repeat (first | apply Kd.R_alloc | apply Kd.R_drewN | apply Kd.R_drew)); exact HO_197001.out)); (case aS => exact (below_size (by repeat (first | (with_reducible first | exact HB.out | apply below_alloc | apply pw_below_drewN | apply below_drew1 | refine below_set ?_ GE189.out | refine below_set ?_ GE196.out) | exact HB.out)))); (case aL => have := LMc26.out; omega); intro v205 w29 ho hb hg hat; rw [← Ny204.out] at ho; have n0_ := Aside0.mk (blk_grown (g := gb189) (o := .cells #[.string (⟨#[]⟩ : ByteArray), .slice none 0 0, .int .i64 0] 31 (0, 0)) (by (with_reducible repeat (first | refine blk_drewN ?_ _ | refine blk_drew ?_ | refine blk_alloc ?_ _)); exact BK189.out) hg (Kd.R_ne HO_197001.out BK189.out (by decide))); have n1_ := Aside0.mk (blk_grown (g := gb196) (o := .cells #[.string t193, u197001, .int .i64 t190] 31 (0, 0)) (by (with_reducible repeat (first | refine blk_drewN ?_ _ | refine blk_drew ?_ | refine blk_alloc ?_ _)); exact BK196.out) hg (Kd.R_ne HO_197001.out BK196.out (by decide))); have n2_ := Aside0.mk (hb); have n3_ := Aside0.mk (ho); clear BK189; clear BK196; clear HB; clear HO_197001; have BK189 := n0_; have BK196 := n1_; have HB := n2_; have HO206 := n3_; clear n0_ n1_ n2_ n3_; clear ho hb hg hat; obtain ⟨Ao30, co30, eo30⟩ := Kd.R_slice HO206.out; subst eo30; have hcz31_0 : w29.cell? ⟨gb196, 0, none⟩ = some (.string t193) := (blk_cell BK196.out 0).trans rfl; have hcz31_1 : w29.cell? ⟨gb196, 1, none⟩ = some (u197001) := (blk_cell BK196.out 1).trans rfl; have hcz31_2 : w29.cell? ⟨gb196, 2, none⟩ = some (.int .i64 t190) := (blk_cell BK196.out 2).trans rfl; have hfz31_0 := blk_frozen BK196.out 0; have hfz31_1 := blk_frozen BK196.out 1; have hfz31_2 := blk_frozen BK196.out 2))
                        go_roundg kj16
                        case measure => have := HJ2.out; have := HK2.out; have := HJ16.out; omega
                        case rel => exact ⟨(t198), (y204), (.slice Ao30 y204.length co30), (by first | rfl | (simp; done) | (simp [*]; done)), H', ⟨by have := HJ2.out; have := HK2.out; have := HJ16.out; omega⟩, ⟨by (with_reducible repeat (first | apply Kd.R_alloc | apply Kd.R_drewN | apply Kd.R_drew)); exact Kd.R_mono (Kd.R_far (p := ⟨gb196, 1, none⟩) (Kd.R_types HO206.out BK196.out (by decide)) (fun _ hk => hk.2) (.slice Ao30 y204.length co30)) (fun _ hk => trivial)⟩, ⟨by (with_reducible repeat (first | refine blk_drewN ?_ _ | refine blk_drew ?_ | refine blk_alloc ?_ _)); refine blk_far ?_ NB189_196.out _; (with_reducible repeat (first | refine blk_drewN ?_ _ | refine blk_drew ?_ | refine blk_alloc ?_ _)); exact BK189.out⟩, ⟨by (with_reducible repeat (first | refine blk_drewN ?_ _ | refine blk_drew ?_ | refine blk_alloc ?_ _)); refine blk_put (cs := #[.string t193, u197001, .int .i64 t190]) ?_ 1 _ rfl; (with_reducible repeat (first | refine blk_drewN ?_ _ | refine blk_drew ?_ | refine blk_alloc ?_ _)); exact BK196.out⟩, ⟨by repeat (first | (with_reducible first | exact HB.out | apply below_alloc | apply pw_below_drewN | apply below_drew1 | refine below_set ?_ GE189.out | refine below_set ?_ GE196.out) | exact HB.out)⟩⟩
                      · rw [if_neg c26] at H
                        exact absurd H (by simp)
                    · replace c22 := Bool.eq_false_iff.mpr c22
                      subst c22
                      have H1 : ((impl_GoodKey.f kj16 t193 x197001_2 t190).bind fun t207 => (if t207 = true then ((impl_keyBytes.f kj16 t193 x197001_2 t190).bind fun t208 => ((bytes_Equal.f t208 l0).bind fun t211 => (if t211 = true then (some (t193, x197001_2, t190, true)) else (some ((⟨#[]⟩ : ByteArray), ([] : List (S87)), 0, false))))) else (some ((⟨#[]⟩ : ByteArray), ([] : List (S87)), 0, false)))) = some (r1, r2, r3, r4) := by rw [if_neg (show ¬ (false = true) by decide)] at H; exact H
                      clear H
                      have H := H1
                      clear H1
                      replace H := Option.bind_eq_some_iff.mp H
                      obtain ⟨t207, A320, H⟩ := H
                      replace H : (if t207 = true then ((impl_keyBytes.f kj16 t193 x197001_2 t190).bind fun t208 => ((bytes_Equal.f t208 l0).bind fun t211 => (if t211 = true then (some (t193, x197001_2, t190, true)) else (some ((⟨#[]⟩ : ByteArray), ([] : List (S87)), 0, false))))) else (some ((⟨#[]⟩ : ByteArray), ([] : List (S87)), 0, false))) = some (r1, r2, r3, r4) := H
                      have A32 := Aside0.mk A320
                      clear A320
                      by_cases c33 : t207 = true
                      · subst c33
                        have H1 : ((impl_keyBytes.f kj16 t193 x197001_2 t190).bind fun t208 => ((bytes_Equal.f t208 l0).bind fun t211 => (if t211 = true then (some (t193, x197001_2, t190, true)) else (some ((⟨#[]⟩ : ByteArray), ([] : List (S87)), 0, false))))) = some (r1, r2, r3, r4) := by rw [if_pos rfl] at H; exact H
                        clear H
                        have H := H1
                        clear H1
                        replace H := Option.bind_eq_some_iff.mp H
                        obtain ⟨t208, A340, H⟩ := H
                        replace H : ((bytes_Equal.f t208 l0).bind fun t211 => (if t211 = true then (some (t193, x197001_2, t190, true)) else (some ((⟨#[]⟩ : ByteArray), ([] : List (S87)), 0, false)))) = some (r1, r2, r3, r4) := H
                        have A34 := Aside0.mk A340
                        clear A340
                        replace H := Option.bind_eq_some_iff.mp H
                        obtain ⟨t211, A350, H⟩ := H
                        replace H : (if t211 = true then (some (t193, x197001_2, t190, true)) else (some ((⟨#[]⟩ : ByteArray), ([] : List (S87)), 0, false))) = some (r1, r2, r3, r4) := H
                        have A35 := Aside0.mk A350
                        clear A350
                        by_cases c36 : t211 = true
                        · subst c36
                          have H1 : (some (t193, x197001_2, t190, true)) = some (r1, r2, r3, r4) := by rw [if_pos rfl] at H; exact H
                          clear H
                          have H := H1
                          clear H1
                          simp only [Option.some.injEq, Prod.mk.injEq] at H
                          obtain ⟨rfl, rfl, rfl, rfl⟩ := H
                          have hnb37 := NB196_189.out
                          have hnc37 := NB189_196.out
                          have hcz38_0 : wc.cell? ⟨gb196, 0, none⟩ = some (.string t193) := (blk_cell BK196.out 0).trans rfl
                          have hcz38_1 : wc.cell? ⟨gb196, 1, none⟩ = some (u197001) := (blk_cell BK196.out 1).trans rfl
                          have hcz38_2 : wc.cell? ⟨gb196, 2, none⟩ = some (.int .i64 t190) := (blk_cell BK196.out 2).trans rfl
                          have hfz38_0 := blk_frozen BK196.out 0
                          have hfz38_1 := blk_frozen BK196.out 1
                          have hfz38_2 := blk_frozen BK196.out 2
                          obtain ⟨Ao39, co39, eo39⟩ := Kd.R_slice HO_197001.out
                          subst eo39
                          go_wp2_with (first | ((with_reducible refine gate_callee (f := 36) rfl ?_); refine goesL_ (some 74) rfl rfl Tryd.func36 (by kernel_rfl) rfl #[.agg #[.string t193, .slice Ao39 x197001_2.length co39, .int .i64 t190]] rfl (by (try simp only [List.map_toArray, List.map_cons, List.map_nil]); first | done | rfl | (simp only [List.length_drop, List.length_take]; rfl)) ?_; (with_reducible refine (impl_GoodKey.calls kj16 t193 _ _ x197001_2 t190 true _ ?side1 ?side2 A32.out).mono ?_); (case side1 => repeat (first | exact (Kd.R_reads' HO_197001.out).2.2 | (with_reducible refine Kd.C_alloc ?_ _) | (with_reducible refine Kd.C_drewN ?_ _) | (with_reducible refine Kd.C_drew ?_))); (case side2 => exact (Kd.R_reads' HO_197001.out).2.1); rintro e w40 ⟨rfl, hb⟩; refine ⟨_, rfl, ?_⟩; have n0_ := Aside0.mk (Kd.R_below (by (with_reducible repeat (first | apply Kd.R_alloc | apply Kd.R_drewN | apply Kd.R_drew)); exact HO_197001.out) hb); have n1_ := Aside0.mk (blk_below (g := gb189) (o := .cells #[.string (⟨#[]⟩ : ByteArray), .slice none 0 0, .int .i64 0] 31 (0, 0)) (by (with_reducible repeat (first | refine blk_drewN ?_ _ | refine blk_drew ?_ | refine blk_alloc ?_ _)); exact BK189.out) hb); have n2_ := Aside0.mk (blk_below (g := gb196) (o := .cells #[.string t193, .slice Ao39 x197001_2.length co39, .int .i64 t190] 31 (0, 0)) (by (with_reducible repeat (first | refine blk_drewN ?_ _ | refine blk_drew ?_ | refine blk_alloc ?_ _)); exact BK196.out) hb); have n3_ := Aside0.mk (below_step (by repeat (first | (with_reducible first | exact HB.out | apply below_alloc | apply pw_below_drewN | apply below_drew1 | refine below_set ?_ GE189.out | refine below_set ?_ GE196.out) | exact HB.out)) hb); clear HO_197001; clear BK189; clear BK196; clear HB; have HO_197001 := n0_; have BK189 := n1_; have BK196 := n2_; have HB := n3_; clear n0_ n1_ n2_ n3_; (try clear hb); (try clear hb2); (try clear hk); (try clear hi); have hcz41_0 : w40.cell? ⟨gb196, 0, none⟩ = some (.string t193) := (blk_cell BK196.out 0).trans rfl; have hcz41_1 : w40.cell? ⟨gb196, 1, none⟩ = some (.slice Ao39 x197001_2.length co39) := (blk_cell BK196.out 1).trans rfl; have hcz41_2 : w40.cell? ⟨gb196, 2, none⟩ = some (.int .i64 t190) := (blk_cell BK196.out 2).trans rfl; have hfz41_0 := blk_frozen BK196.out 0; have hfz41_1 := blk_frozen BK196.out 1; have hfz41_2 := blk_frozen BK196.out 2) | (go_at_call 37; (with_reducible refine (impl_keyBytes.calls kj16 t193 _ _ x197001_2 t190 t208 _ ?side1 ?side2 A34.out).mono ?_); (case side1 => repeat (first | exact (Kd.R_reads' HO_197001.out).2.2 | (with_reducible refine Kd.C_alloc ?_ _) | (with_reducible refine Kd.C_drewN ?_ _) | (with_reducible refine Kd.C_drew ?_))); (case side2 => exact (Kd.R_reads' HO_197001.out).2.1); rintro e w42 ⟨v209, rfl, ho0, hb⟩; have n0_ := Aside0.mk (Kd.R_below (by (with_reducible repeat (first | apply Kd.R_alloc | apply Kd.R_drewN | apply Kd.R_drew)); exact HO_197001.out) hb); have n1_ := Aside0.mk (Kd.Y_lower ho0 (below_size (by repeat (first | (with_reducible first | exact HB.out | apply below_alloc | apply pw_below_drewN | apply below_drew1 | refine below_set ?_ GE189.out | refine below_set ?_ GE196.out) | exact HB.out)))); have n2_ := Aside0.mk (blk_below (g := gb189) (o := .cells #[.string (⟨#[]⟩ : ByteArray), .slice none 0 0, .int .i64 0] 31 (0, 0)) (by (with_reducible repeat (first | refine blk_drewN ?_ _ | refine blk_drew ?_ | refine blk_alloc ?_ _)); exact BK189.out) hb); have n3_ := Aside0.mk (blk_below (g := gb196) (o := .cells #[.string t193, .slice Ao39 x197001_2.length co39, .int .i64 t190] 31 (0, 0)) (by (with_reducible repeat (first | refine blk_drewN ?_ _ | refine blk_drew ?_ | refine blk_alloc ?_ _)); exact BK196.out) hb); have n4_ := Aside0.mk (below_step (by repeat (first | (with_reducible first | exact HB.out | apply below_alloc | apply pw_below_drewN | apply below_drew1 | refine below_set ?_ GE189.out | refine below_set ?_ GE196.out) | exact HB.out)) hb); clear HO_197001; clear BK189; clear BK196; clear HB; have HO_197001 := n0_; have HO210 := n1_; have BK189 := n2_; have BK196 := n3_; have HB := n4_; clear n0_ n1_ n2_ n3_ n4_; (try clear hb); (try clear hb2); (try clear hk); (try clear hi); (try clear ho0); obtain ⟨Ao43, co43, eo43⟩ := Kd.Y_slice HO210.out; subst eo43) | (go_at_call 57; (with_reducible refine (bytes_Equal.calls _ _ t208 _ _ l0 true _ ?side1 ?side2 ?side3 ?side4 A35.out).mono ?_); (case side1 => repeat (first | exact (Kd.Y_reads' HO210.out).2.2 | (with_reducible refine Kd.C_alloc ?_ _) | (with_reducible refine Kd.C_drewN ?_ _) | (with_reducible refine Kd.C_drew ?_))); (case side2 => exact (Kd.Y_reads' HO210.out).2.1); (case side3 => repeat (first | exact (Kd.C_below HR0.out HB.out) | (with_reducible refine Kd.C_alloc ?_ _) | (with_reducible refine Kd.C_drewN ?_ _) | (with_reducible refine Kd.C_drew ?_))); (case side4 => exact HC0.out); rintro e w' ⟨rfl, ⟨nd, rfl⟩⟩; (try (rw [drewN_self w42]; generalize hq_ : World.drewN w42 _ = w42; have n0_ : Aside0 (Kd.Y (Kd.int .u8) 5 w42 w.heap.size (fun _ => True) (.slice Ao43 t208.length co43) t208) := ⟨by rw [← hq_]; exact (by (with_reducible repeat (first | apply Kd.Y_alloc | apply Kd.Y_drewN | apply Kd.Y_drew)); exact HO210.out)⟩; have n1_ : Aside0 (Kd.R k87 87 w42 w.heap.size (fun _ => True) (.slice Ao39 x197001_2.length co39) x197001_2) := ⟨by rw [← hq_]; exact (by (with_reducible repeat (first | apply Kd.R_alloc | apply Kd.R_drewN | apply Kd.R_drew)); exact HO_197001.out)⟩; have n2_ : Aside0 (w42.heap[gb189]? = some (.cells #[.string (⟨#[]⟩ : ByteArray), .slice none 0 0, .int .i64 0] 31 (0, 0))) := ⟨by rw [← hq_]; exact (by (with_reducible repeat (first | refine blk_drewN ?_ _ | refine blk_drew ?_ | refine blk_alloc ?_ _)); exact BK189.out)⟩; have n3_ : Aside0 (w42.heap[gb196]? = some (.cells #[.string t193, .slice Ao39 x197001_2.length co39, .int .i64 t190] 31 (0, 0))) := ⟨by rw [← hq_]; exact (by (with_reducible repeat (first | refine blk_drewN ?_ _ | refine blk_drew ?_ | refine blk_alloc ?_ _)); exact BK196.out)⟩; have n4_ : Aside0 (Below w.heap.size w w42) := ⟨by rw [← hq_]; exact (by repeat (first | (with_reducible first | exact HB.out | apply below_alloc | apply pw_below_drewN | apply below_drew1 | refine below_set ?_ GE189.out | refine below_set ?_ GE196.out) | exact HB.out))⟩; clear HO210 HO_197001 BK189 BK196 HB hq_; have HO210 := n0_; have HO_197001 := n1_; have BK189 := n2_; have BK196 := n3_; have HB := n4_; clear n0_ n1_ n2_ n3_ n4_)); have hcz44_0 : w42.cell? ⟨gb196, 0, none⟩ = some (.string t193) := (blk_cell BK196.out 0).trans rfl; have hcz44_1 : w42.cell? ⟨gb196, 1, none⟩ = some (.slice Ao39 x197001_2.length co39) := (blk_cell BK196.out 1).trans rfl; have hcz44_2 : w42.cell? ⟨gb196, 2, none⟩ = some (.int .i64 t190) := (blk_cell BK196.out 2).trans rfl; have hfz44_0 := blk_frozen BK196.out 0; have hfz44_1 := blk_frozen BK196.out 1; have hfz44_2 := blk_frozen BK196.out 2; have hcz45_0 : w42.cell? ⟨gb189, 0, none⟩ = some (.string (⟨#[]⟩ : ByteArray)) := (blk_cell BK189.out 0).trans rfl; have hcz45_1 : w42.cell? ⟨gb189, 1, none⟩ = some (.slice none 0 0) := (blk_cell BK189.out 1).trans rfl; have hcz45_2 : w42.cell? ⟨gb189, 2, none⟩ = some (.int .i64 0) := (blk_cell BK189.out 2).trans rfl; have hfz45_0 := blk_frozen BK189.out 0; have hfz45_1 := blk_frozen BK189.out 1; have hfz45_2 := blk_frozen BK189.out 2))
                          refine bodyPost_ret (results_ct rfl _ _ gb189 31 #[.string t193, .slice Ao39 x197001_2.length co39, .int .i64 t190] (0, 0) _ rfl (by (with_reducible repeat (first | refine blk_drewN ?_ _ | refine blk_drew ?_ | refine blk_alloc ?_ _)); refine blk_put (cs := #[.string t193, .slice Ao39 x197001_2.length co39, .int .i64 0]) ?_ 2 _ rfl; (with_reducible repeat (first | refine blk_drewN ?_ _ | refine blk_drew ?_ | refine blk_alloc ?_ _)); refine blk_put (cs := #[.string t193, .slice none 0 0, .int .i64 0]) ?_ 1 _ rfl; (with_reducible repeat (first | refine blk_drewN ?_ _ | refine blk_drew ?_ | refine blk_alloc ?_ _)); refine blk_put (cs := #[.string (⟨#[]⟩ : ByteArray), .slice none 0 0, .int .i64 0]) ?_ 0 _ rfl; (with_reducible repeat (first | refine blk_drewN ?_ _ | refine blk_drew ?_ | refine blk_alloc ?_ _)); exact BK189.out) Tryd.underlying31 rfl (by kernel_rfl)) rfl ?_
                          exact ⟨_, by first | rfl | (simp [errW_none, errW_some] <;> rfl) | (simp only [← hji8]; first | rfl | (simp [errW_none, errW_some] <;> rfl)) | (simp [*, errW_none, errW_some] <;> rfl), by (with_reducible repeat (first | apply Kd.R_alloc | apply Kd.R_drewN | apply Kd.R_drew)); exact Kd.R_mono (Kd.R_far (p := ⟨gb189, 2, none⟩) (Kd.R_far (p := ⟨gb189, 1, none⟩) (Kd.R_far (p := ⟨gb189, 0, none⟩) (Kd.R_types HO_197001.out BK189.out (by decide)) (fun _ hk => hk.2) (.string t193)) (fun _ hk => hk.2) (.slice Ao39 x197001_2.length co39)) (fun _ hk => hk.2) (.int .i64 t190)) (fun _ hk => trivial), by repeat (first | (with_reducible first | exact HB.out | apply below_alloc | apply pw_below_drewN | apply below_drew1 | refine below_set ?_ GE189.out | refine below_set ?_ GE196.out) | exact HB.out)⟩
                        · replace c36 := Bool.eq_false_iff.mpr c36
                          subst c36
                          have H1 : (some ((⟨#[]⟩ : ByteArray), ([] : List (S87)), 0, false)) = some (r1, r2, r3, r4) := by rw [if_neg (show ¬ (false = true) by decide)] at H; exact H
                          clear H
                          have H := H1
                          clear H1
                          simp only [Option.some.injEq, Prod.mk.injEq] at H
                          obtain ⟨rfl, rfl, rfl, rfl⟩ := H
                          have hnb46 := NB196_189.out
                          have hnc46 := NB189_196.out
                          have hcz47_0 : wc.cell? ⟨gb196, 0, none⟩ = some (.string t193) := (blk_cell BK196.out 0).trans rfl
                          have hcz47_1 : wc.cell? ⟨gb196, 1, none⟩ = some (u197001) := (blk_cell BK196.out 1).trans rfl
                          have hcz47_2 : wc.cell? ⟨gb196, 2, none⟩ = some (.int .i64 t190) := (blk_cell BK196.out 2).trans rfl
                          have hfz47_0 := blk_frozen BK196.out 0
                          have hfz47_1 := blk_frozen BK196.out 1
                          have hfz47_2 := blk_frozen BK196.out 2
                          obtain ⟨Ao48, co48, eo48⟩ := Kd.R_slice HO_197001.out
                          subst eo48
                          go_wp2_with (first | ((with_reducible refine gate_callee (f := 36) rfl ?_); refine goesL_ (some 74) rfl rfl Tryd.func36 (by kernel_rfl) rfl #[.agg #[.string t193, .slice Ao48 x197001_2.length co48, .int .i64 t190]] rfl (by (try simp only [List.map_toArray, List.map_cons, List.map_nil]); first | done | rfl | (simp only [List.length_drop, List.length_take]; rfl)) ?_; (with_reducible refine (impl_GoodKey.calls kj16 t193 _ _ x197001_2 t190 true _ ?side1 ?side2 A32.out).mono ?_); (case side1 => repeat (first | exact (Kd.R_reads' HO_197001.out).2.2 | (with_reducible refine Kd.C_alloc ?_ _) | (with_reducible refine Kd.C_drewN ?_ _) | (with_reducible refine Kd.C_drew ?_))); (case side2 => exact (Kd.R_reads' HO_197001.out).2.1); rintro e w49 ⟨rfl, hb⟩; refine ⟨_, rfl, ?_⟩; have n0_ := Aside0.mk (Kd.R_below (by (with_reducible repeat (first | apply Kd.R_alloc | apply Kd.R_drewN | apply Kd.R_drew)); exact HO_197001.out) hb); have n1_ := Aside0.mk (blk_below (g := gb189) (o := .cells #[.string (⟨#[]⟩ : ByteArray), .slice none 0 0, .int .i64 0] 31 (0, 0)) (by (with_reducible repeat (first | refine blk_drewN ?_ _ | refine blk_drew ?_ | refine blk_alloc ?_ _)); exact BK189.out) hb); have n2_ := Aside0.mk (blk_below (g := gb196) (o := .cells #[.string t193, .slice Ao48 x197001_2.length co48, .int .i64 t190] 31 (0, 0)) (by (with_reducible repeat (first | refine blk_drewN ?_ _ | refine blk_drew ?_ | refine blk_alloc ?_ _)); exact BK196.out) hb); have n3_ := Aside0.mk (below_step (by repeat (first | (with_reducible first | exact HB.out | apply below_alloc | apply pw_below_drewN | apply below_drew1 | refine below_set ?_ GE189.out | refine below_set ?_ GE196.out) | exact HB.out)) hb); clear HO_197001; clear BK189; clear BK196; clear HB; have HO_197001 := n0_; have BK189 := n1_; have BK196 := n2_; have HB := n3_; clear n0_ n1_ n2_ n3_; (try clear hb); (try clear hb2); (try clear hk); (try clear hi); have hcz50_0 : w49.cell? ⟨gb196, 0, none⟩ = some (.string t193) := (blk_cell BK196.out 0).trans rfl; have hcz50_1 : w49.cell? ⟨gb196, 1, none⟩ = some (.slice Ao48 x197001_2.length co48) := (blk_cell BK196.out 1).trans rfl; have hcz50_2 : w49.cell? ⟨gb196, 2, none⟩ = some (.int .i64 t190) := (blk_cell BK196.out 2).trans rfl; have hfz50_0 := blk_frozen BK196.out 0; have hfz50_1 := blk_frozen BK196.out 1; have hfz50_2 := blk_frozen BK196.out 2) | (go_at_call 37; (with_reducible refine (impl_keyBytes.calls kj16 t193 _ _ x197001_2 t190 t208 _ ?side1 ?side2 A34.out).mono ?_); (case side1 => repeat (first | exact (Kd.R_reads' HO_197001.out).2.2 | (with_reducible refine Kd.C_alloc ?_ _) | (with_reducible refine Kd.C_drewN ?_ _) | (with_reducible refine Kd.C_drew ?_))); (case side2 => exact (Kd.R_reads' HO_197001.out).2.1); rintro e w51 ⟨v209, rfl, ho0, hb⟩; have n0_ := Aside0.mk (Kd.R_below (by (with_reducible repeat (first | apply Kd.R_alloc | apply Kd.R_drewN | apply Kd.R_drew)); exact HO_197001.out) hb); have n1_ := Aside0.mk (Kd.Y_lower ho0 (below_size (by repeat (first | (with_reducible first | exact HB.out | apply below_alloc | apply pw_below_drewN | apply below_drew1 | refine below_set ?_ GE189.out | refine below_set ?_ GE196.out) | exact HB.out)))); have n2_ := Aside0.mk (blk_below (g := gb189) (o := .cells #[.string (⟨#[]⟩ : ByteArray), .slice none 0 0, .int .i64 0] 31 (0, 0)) (by (with_reducible repeat (first | refine blk_drewN ?_ _ | refine blk_drew ?_ | refine blk_alloc ?_ _)); exact BK189.out) hb); have n3_ := Aside0.mk (blk_below (g := gb196) (o := .cells #[.string t193, .slice Ao48 x197001_2.length co48, .int .i64 t190] 31 (0, 0)) (by (with_reducible repeat (first | refine blk_drewN ?_ _ | refine blk_drew ?_ | refine blk_alloc ?_ _)); exact BK196.out) hb); have n4_ := Aside0.mk (below_step (by repeat (first | (with_reducible first | exact HB.out | apply below_alloc | apply pw_below_drewN | apply below_drew1 | refine below_set ?_ GE189.out | refine below_set ?_ GE196.out) | exact HB.out)) hb); clear HO_197001; clear BK189; clear BK196; clear HB; have HO_197001 := n0_; have HO210 := n1_; have BK189 := n2_; have BK196 := n3_; have HB := n4_; clear n0_ n1_ n2_ n3_ n4_; (try clear hb); (try clear hb2); (try clear hk); (try clear hi); (try clear ho0); obtain ⟨Ao52, co52, eo52⟩ := Kd.Y_slice HO210.out; subst eo52) | (go_at_call 57; (with_reducible refine (bytes_Equal.calls _ _ t208 _ _ l0 false _ ?side1 ?side2 ?side3 ?side4 A35.out).mono ?_); (case side1 => repeat (first | exact (Kd.Y_reads' HO210.out).2.2 | (with_reducible refine Kd.C_alloc ?_ _) | (with_reducible refine Kd.C_drewN ?_ _) | (with_reducible refine Kd.C_drew ?_))); (case side2 => exact (Kd.Y_reads' HO210.out).2.1); (case side3 => repeat (first | exact (Kd.C_below HR0.out HB.out) | (with_reducible refine Kd.C_alloc ?_ _) | (with_reducible refine Kd.C_drewN ?_ _) | (with_reducible refine Kd.C_drew ?_))); (case side4 => exact HC0.out); rintro e w' ⟨rfl, ⟨nd, rfl⟩⟩; (try (rw [drewN_self w51]; generalize hq_ : World.drewN w51 _ = w51; have n0_ : Aside0 (Kd.Y (Kd.int .u8) 5 w51 w.heap.size (fun _ => True) (.slice Ao52 t208.length co52) t208) := ⟨by rw [← hq_]; exact (by (with_reducible repeat (first | apply Kd.Y_alloc | apply Kd.Y_drewN | apply Kd.Y_drew)); exact HO210.out)⟩; have n1_ : Aside0 (Kd.R k87 87 w51 w.heap.size (fun _ => True) (.slice Ao48 x197001_2.length co48) x197001_2) := ⟨by rw [← hq_]; exact (by (with_reducible repeat (first | apply Kd.R_alloc | apply Kd.R_drewN | apply Kd.R_drew)); exact HO_197001.out)⟩; have n2_ : Aside0 (w51.heap[gb189]? = some (.cells #[.string (⟨#[]⟩ : ByteArray), .slice none 0 0, .int .i64 0] 31 (0, 0))) := ⟨by rw [← hq_]; exact (by (with_reducible repeat (first | refine blk_drewN ?_ _ | refine blk_drew ?_ | refine blk_alloc ?_ _)); exact BK189.out)⟩; have n3_ : Aside0 (w51.heap[gb196]? = some (.cells #[.string t193, .slice Ao48 x197001_2.length co48, .int .i64 t190] 31 (0, 0))) := ⟨by rw [← hq_]; exact (by (with_reducible repeat (first | refine blk_drewN ?_ _ | refine blk_drew ?_ | refine blk_alloc ?_ _)); exact BK196.out)⟩; have n4_ : Aside0 (Below w.heap.size w w51) := ⟨by rw [← hq_]; exact (by repeat (first | (with_reducible first | exact HB.out | apply below_alloc | apply pw_below_drewN | apply below_drew1 | refine below_set ?_ GE189.out | refine below_set ?_ GE196.out) | exact HB.out))⟩; clear HO210 HO_197001 BK189 BK196 HB hq_; have HO210 := n0_; have HO_197001 := n1_; have BK189 := n2_; have BK196 := n3_; have HB := n4_; clear n0_ n1_ n2_ n3_ n4_)); have hcz53_0 : w51.cell? ⟨gb189, 0, none⟩ = some (.string (⟨#[]⟩ : ByteArray)) := (blk_cell BK189.out 0).trans rfl; have hcz53_1 : w51.cell? ⟨gb189, 1, none⟩ = some (.slice none 0 0) := (blk_cell BK189.out 1).trans rfl; have hcz53_2 : w51.cell? ⟨gb189, 2, none⟩ = some (.int .i64 0) := (blk_cell BK189.out 2).trans rfl; have hfz53_0 := blk_frozen BK189.out 0; have hfz53_1 := blk_frozen BK189.out 1; have hfz53_2 := blk_frozen BK189.out 2))
                          refine bodyPost_ret (results_ct rfl _ _ gb189 31 #[.string (⟨#[]⟩ : ByteArray), .slice none 0 0, .int .i64 0] (0, 0) _ rfl (by (with_reducible repeat (first | refine blk_drewN ?_ _ | refine blk_drew ?_ | refine blk_alloc ?_ _)); refine blk_put (cs := #[.string (⟨#[]⟩ : ByteArray), .slice none 0 0, .int .i64 0]) ?_ 2 _ rfl; (with_reducible repeat (first | refine blk_drewN ?_ _ | refine blk_drew ?_ | refine blk_alloc ?_ _)); refine blk_put (cs := #[.string (⟨#[]⟩ : ByteArray), .slice none 0 0, .int .i64 0]) ?_ 1 _ rfl; (with_reducible repeat (first | refine blk_drewN ?_ _ | refine blk_drew ?_ | refine blk_alloc ?_ _)); refine blk_put (cs := #[.string (⟨#[]⟩ : ByteArray), .slice none 0 0, .int .i64 0]) ?_ 0 _ rfl; (with_reducible repeat (first | refine blk_drewN ?_ _ | refine blk_drew ?_ | refine blk_alloc ?_ _)); exact BK189.out) Tryd.underlying31 rfl (by kernel_rfl)) rfl ?_
                          exact ⟨_, by first | rfl | (simp [errW_none, errW_some] <;> rfl) | (simp only [← hji8]; first | rfl | (simp [errW_none, errW_some] <;> rfl)) | (simp [*, errW_none, errW_some] <;> rfl), by first | exact Kd.R_nil _ _ _ _ _ | exact Kd.N_nil _ _ _ _ _ | exact Kd.V_nil _ _ _ _ _ | exact Kd.Q_nil _ _ _ _ _ | exact Kd.S_nil _ _ _ _ _, by repeat (first | (with_reducible first | exact HB.out | apply below_alloc | apply pw_below_drewN | apply below_drew1 | refine below_set ?_ GE189.out | refine below_set ?_ GE196.out) | exact HB.out)⟩
                      · replace c33 := Bool.eq_false_iff.mpr c33
                        subst c33
                        have H1 : (some ((⟨#[]⟩ : ByteArray), ([] : List (S87)), 0, false)) = some (r1, r2, r3, r4) := by rw [if_neg (show ¬ (false = true) by decide)] at H; exact H
                        clear H
                        have H := H1
                        clear H1
                        simp only [Option.some.injEq, Prod.mk.injEq] at H
                        obtain ⟨rfl, rfl, rfl, rfl⟩ := H
                        have hnb54 := NB196_189.out
                        have hnc54 := NB189_196.out
                        have hcz55_0 : wc.cell? ⟨gb196, 0, none⟩ = some (.string t193) := (blk_cell BK196.out 0).trans rfl
                        have hcz55_1 : wc.cell? ⟨gb196, 1, none⟩ = some (u197001) := (blk_cell BK196.out 1).trans rfl
                        have hcz55_2 : wc.cell? ⟨gb196, 2, none⟩ = some (.int .i64 t190) := (blk_cell BK196.out 2).trans rfl
                        have hfz55_0 := blk_frozen BK196.out 0
                        have hfz55_1 := blk_frozen BK196.out 1
                        have hfz55_2 := blk_frozen BK196.out 2
                        obtain ⟨Ao56, co56, eo56⟩ := Kd.R_slice HO_197001.out
                        subst eo56
                        go_wp2_with (first | ((with_reducible refine gate_callee (f := 36) rfl ?_); refine goesL_ (some 74) rfl rfl Tryd.func36 (by kernel_rfl) rfl #[.agg #[.string t193, .slice Ao56 x197001_2.length co56, .int .i64 t190]] rfl (by (try simp only [List.map_toArray, List.map_cons, List.map_nil]); first | done | rfl | (simp only [List.length_drop, List.length_take]; rfl)) ?_; (with_reducible refine (impl_GoodKey.calls kj16 t193 _ _ x197001_2 t190 false _ ?side1 ?side2 A32.out).mono ?_); (case side1 => repeat (first | exact (Kd.R_reads' HO_197001.out).2.2 | (with_reducible refine Kd.C_alloc ?_ _) | (with_reducible refine Kd.C_drewN ?_ _) | (with_reducible refine Kd.C_drew ?_))); (case side2 => exact (Kd.R_reads' HO_197001.out).2.1); rintro e w57 ⟨rfl, hb⟩; refine ⟨_, rfl, ?_⟩; have n0_ := Aside0.mk (Kd.R_below (by (with_reducible repeat (first | apply Kd.R_alloc | apply Kd.R_drewN | apply Kd.R_drew)); exact HO_197001.out) hb); have n1_ := Aside0.mk (blk_below (g := gb189) (o := .cells #[.string (⟨#[]⟩ : ByteArray), .slice none 0 0, .int .i64 0] 31 (0, 0)) (by (with_reducible repeat (first | refine blk_drewN ?_ _ | refine blk_drew ?_ | refine blk_alloc ?_ _)); exact BK189.out) hb); have n2_ := Aside0.mk (blk_below (g := gb196) (o := .cells #[.string t193, .slice Ao56 x197001_2.length co56, .int .i64 t190] 31 (0, 0)) (by (with_reducible repeat (first | refine blk_drewN ?_ _ | refine blk_drew ?_ | refine blk_alloc ?_ _)); exact BK196.out) hb); have n3_ := Aside0.mk (below_step (by repeat (first | (with_reducible first | exact HB.out | apply below_alloc | apply pw_below_drewN | apply below_drew1 | refine below_set ?_ GE189.out | refine below_set ?_ GE196.out) | exact HB.out)) hb); clear HO_197001; clear BK189; clear BK196; clear HB; have HO_197001 := n0_; have BK189 := n1_; have BK196 := n2_; have HB := n3_; clear n0_ n1_ n2_ n3_; (try clear hb); (try clear hb2); (try clear hk); (try clear hi); have hcz58_0 : w57.cell? ⟨gb189, 0, none⟩ = some (.string (⟨#[]⟩ : ByteArray)) := (blk_cell BK189.out 0).trans rfl; have hcz58_1 : w57.cell? ⟨gb189, 1, none⟩ = some (.slice none 0 0) := (blk_cell BK189.out 1).trans rfl; have hcz58_2 : w57.cell? ⟨gb189, 2, none⟩ = some (.int .i64 0) := (blk_cell BK189.out 2).trans rfl; have hfz58_0 := blk_frozen BK189.out 0; have hfz58_1 := blk_frozen BK189.out 1; have hfz58_2 := blk_frozen BK189.out 2))
                        refine bodyPost_ret (results_ct rfl _ _ gb189 31 #[.string (⟨#[]⟩ : ByteArray), .slice none 0 0, .int .i64 0] (0, 0) _ rfl (by (with_reducible repeat (first | refine blk_drewN ?_ _ | refine blk_drew ?_ | refine blk_alloc ?_ _)); refine blk_put (cs := #[.string (⟨#[]⟩ : ByteArray), .slice none 0 0, .int .i64 0]) ?_ 2 _ rfl; (with_reducible repeat (first | refine blk_drewN ?_ _ | refine blk_drew ?_ | refine blk_alloc ?_ _)); refine blk_put (cs := #[.string (⟨#[]⟩ : ByteArray), .slice none 0 0, .int .i64 0]) ?_ 1 _ rfl; (with_reducible repeat (first | refine blk_drewN ?_ _ | refine blk_drew ?_ | refine blk_alloc ?_ _)); refine blk_put (cs := #[.string (⟨#[]⟩ : ByteArray), .slice none 0 0, .int .i64 0]) ?_ 0 _ rfl; (with_reducible repeat (first | refine blk_drewN ?_ _ | refine blk_drew ?_ | refine blk_alloc ?_ _)); exact BK189.out) Tryd.underlying31 rfl (by kernel_rfl)) rfl ?_
                        exact ⟨_, by first | rfl | (simp [errW_none, errW_some] <;> rfl) | (simp only [← hji8]; first | rfl | (simp [errW_none, errW_some] <;> rfl)) | (simp [*, errW_none, errW_some] <;> rfl), by first | exact Kd.R_nil _ _ _ _ _ | exact Kd.N_nil _ _ _ _ _ | exact Kd.V_nil _ _ _ _ _ | exact Kd.Q_nil _ _ _ _ _ | exact Kd.S_nil _ _ _ _ _, by repeat (first | (with_reducible first | exact HB.out | apply below_alloc | apply pw_below_drewN | apply below_drew1 | refine below_set ?_ GE189.out | refine below_set ?_ GE196.out) | exact HB.out)⟩
          · rw [if_neg c10] at H
            exact absurd H (by simp)
        · rw [if_neg c9] at H
          exact absurd H (by simp)

end Go.Proofs.YtodblpadklheaaaDoor.PFnExactReadKey
