-- Written by a program of this session.
import Derived.Test.YtllmlnagihlokaaPFnExactBoundsOfx0
import Derived.Test.YtllmlnagihlokaaPFnExactBoundsOfx4
namespace Go.Proofs.Ytllmlnagihlokaa.PFnExactBoundsOf
open Go.RowKit Go.Proofs.YtllmlnagihlokaaW.PrintWords Go.Proofs.YtllmlnagihlokaaW.PrintLast Go.Proofs.YtllmlnagihlokaaW.PrintMore
attribute [local go_sem] max2_int min2_int max_two min_two max_three min_three max_four min_four hw_string_geq hw_string_gtr hw_string_leq
set_option linter.unusedVariables false
set_option linter.unusedSimpArgs false
/-! ### spec_l6Filter: function 38 -/
mutual
def spec_l6Filter.j0 : Nat → List ByteArray → Int → Int → Option (Int × List Int)
 | 0, _, _, _ => none
 | k + 1, x0, x1, x5 => if x5 > 8 then (spec_l6Filter.j1 k x0 x1 8) else (spec_l6Filter.j1 k x0 x1 x5)
def spec_l6Filter.j1 : Nat → List ByteArray → Int → Int → Option (Int × List Int)
 | 0, _, _, _ => none
 | k + 1, x0, x1, x5 => if (wrap64 ((x0.length : Int) * x1)) < 64 then (spec_l6Filter.j2 k x0 x5 64) else (spec_l6Filter.j2 k x0 x5 (wrap64 ((x0.length : Int) * x1)))
def spec_l6Filter.j2 : Nat → List ByteArray → Int → Int → Option (Int × List Int)
 | 0, _, _, _ => none
 | k + 1, x0, x5, x6 => if (wrap64 (Int.tdiv (wrap64 (x6 + 7)) 8)) > 200 then (spec_l6Filter.j3 k x0 x5 200) else (spec_l6Filter.j3 k x0 x5 (wrap64 (Int.tdiv (wrap64 (x6 + 7)) 8)))
def spec_l6Filter.j3 : Nat → List ByteArray → Int → Int → Option (Int × List Int)
 | 0, _, _, _ => none
 | k + 1, x0, x5, x7 => if 0 ≤ x7 then (if (x7 : Int).toNat ≤ 281474976710656 then (spec_l6Filter.l0 k x5 x7 x0 (x0.length : Int) 0 x5 (List.replicate (x7 : Int).toNat 0)) else (none)) else (none)
def spec_l6Filter.l0 : Nat → Int → Int → List ByteArray → Int → Int → Int → List Int → Option (Int × List Int)
 | 0, _, _, _, _, _, _, _ => none
 | k + 1, x5, x7, x35, x36, x37, x167000, x167001 => if x37 < x36 then (if 0 ≤ x37 then (if x37 < (x35.length : Int) then ((spec_l6Places.f k (rdOf ByteArray.empty x35 x37) x5 x7).bind fun t168 => (spec_l6Filter.l1 k x5 x7 x35 x36 x37 t168 (t168.length : Int) 0 x167000 x167001)) else (none)) else (none)) else (some (x167000, x167001))
def spec_l6Filter.l1 : Nat → Int → Int → List ByteArray → Int → Int → List Int → Int → Int → Int → List Int → Option (Int × List Int)
 | 0, _, _, _, _, _, _, _, _, _, _ => none
 | k + 1, x5, x7, x35, x36, x37, x44, x45, x46, x167000, x167001 => if x46 < x45 then (if 0 ≤ x46 then (if x46 < (x44.length : Int) then (if 0 ≤ (wrap64 (Int.tdiv (rd x44 x46) 8)) then (if (wrap64 (Int.tdiv (rd x44 x46) 8)) < (x167001.length : Int) then (if 0 ≤ (IntKind.u64.wrap (Int.tmod (rd x44 x46) 8)) then (spec_l6Filter.l1 k x5 x7 x35 x36 x37 x44 x45 (wrap64 (x46 + 1)) x167000 (x167001.set ((wrap64 (Int.tdiv (rd x44 x46) 8)) : Int).toNat (Go.bits .or .u8 (rd x167001 (wrap64 (Int.tdiv (rd x44 x46) 8))) (shl .u8 1 (IntKind.u64.wrap (Int.tmod (rd x44 x46) 8)))))) else (none)) else (none)) else (none)) else (none)) else (none)) else (spec_l6Filter.l0 k x5 x7 x35 x36 (wrap64 (x37 + 1)) x167000 x167001)
end
def spec_l6Filter.f (k : Nat) (l0 : List ByteArray) (a1 : Int) : Option (Int × List Int) := if (wrap64 (Int.tdiv (wrap64 (a1 * 69)) 100)) < 1 then (spec_l6Filter.j0 k l0 a1 1) else (spec_l6Filter.j0 k l0 a1 (wrap64 (Int.tdiv (wrap64 (a1 * 69)) 100)))
set_option maxHeartbeats 8000000 in
set_option maxRecDepth 100000 in
theorem spec_l6Filter.calls (k : Nat) (A0 : Option Addr) (c0 : Nat) (l0 : List ByteArray) (a1 : Int) (r1 : Int) (r2 : List Int) (w : World) (hr0 : Kd.C Kd.string w A0 l0.length l0) (hc0 : l0.length ≤ c0) (h : spec_l6Filter.f k l0 a1 = some (r1, r2)) :
  Calls Try.prog 38 #[.slice A0 l0.length c0, .int .i64 a1] w fun e w' => ∃ v1_ : Value, e = .returned (.agg #[.int .i64 r1, v1_]) ∧ Kd.R (Kd.int .u8) 5 w' w.heap.size (fun _ => True) v1_ r2 ∧ Below w.heap.size w w' := by
 have hu64 := Try.underlying64
 have HR0 := Aside0.mk hr0
 have HC0 := Aside0.mk hc0
 clear hr0 hc0
 have HB := mK (Below.refl w.heap.size w)
 have H : (if (wrap64 (Int.tdiv (wrap64 (a1 * 69)) 100)) < 1 then (spec_l6Filter.j0 k l0 a1 1) else (spec_l6Filter.j0 k l0 a1 (wrap64 (Int.tdiv (wrap64 (a1 * 69)) 100)))) = some (r1, r2) := h
 clear h
 have HC3 := Aside0.mk H
 clear H
 go_enter Try.func38, Try.ntmps38
 go_upto_if 17 with (first | ((with_reducible refine gate_dst (N := 4) rfl ?_); refine box_event ?hg (N := 4) ?hd (cs := #[.int .i64 0, .slice none 0 0]) (t := 64) ?hr ?_; (case hd => rfl); (case hg => rfl); (case hr => first | (go_simp; done) | (go_simp; rfl)); intro gb162 hg w4 hbox hb; have _ := mK (below_step (bL HB.out) hb); have _ := mK (hbox); have _ := mK (sL hg (bL HB.out)); clear HB; rename_i HB BK162 GE162; clear hb hbox hg))
 (try simp only [Act.put, sq_a, sq_b, sq_c])
 go_cut [5] (fun v5 wc => ∃ (kq : Nat) (x5_2 : Int), v5 = .int .i64 x5_2 ∧ Aside0 (spec_l6Filter.j0 kq l0 a1 x5_2 = some (r1, r2)) ∧ Aside0 (kq ≤ k) ∧ Aside0 (wc.heap[gb162]? = some (.cells #[.int .i64 0, (.slice none 0 0)] 64 (0, 0))) ∧ Aside0 (Below w.heap.size w wc))
 case first =>
  have H := HC3.out; clear HC3
  by_cases c5 : (wrap64 (Int.tdiv (wrap64 (a1 * 69)) 100)) < 1
  ·rw [if_pos c5] at H
   have c5b0 : decide ((wrap64 (Int.tdiv (wrap64 (a1 * 69)) 100)) < 1) = true := decide_eq_true c5; clear c5; (first | rw [c5b0] | (simp only [i64_w, i32_w]; rw [c5b0]) | skip); have H' := Aside0.mk H; clear H
   go_wp2
   go_meet
   case rel => exact ⟨_, (1), sE, H', ⟨by first | omega | exact Nat.le_refl _⟩, ⟨bK BK162.out⟩, ⟨bL HB.out⟩⟩
  ·rw [if_neg c5] at H
   have c5b0 : decide ((wrap64 (Int.tdiv (wrap64 (a1 * 69)) 100)) < 1) = false := decide_eq_false c5; clear c5; (first | rw [c5b0] | (simp only [i64_w, i32_w]; rw [c5b0]) | skip); have H' := Aside0.mk H; clear H
   go_wp2
   go_meet
   case rel => exact ⟨_, (wrap64 (Int.tdiv (wrap64 (a1 * 69)) 100)), sE, H', ⟨by first | omega | exact Nat.le_refl _⟩, ⟨bK BK162.out⟩, ⟨bL HB.out⟩⟩
 case rest =>
  clear HC3
  try clear p2
  try clear c3
  try clear c5
  try clear c5b0
  obtain ⟨kq, x5_2, rfl, HA, HJ2, BK162, HB⟩ := hcut
  cases kq with
  | zero => exact absurd HA.out (by simp [spec_l6Filter.j0])
  | succ kj2 =>
   have H := HA.out; clear HA; simp only [spec_l6Filter.j0] at H; have HC6 := Aside0.mk H; clear H
   go_upto_if 19 with (fail)
   go_cut [5] (fun v5 wc => ∃ (kq : Nat) (x5_5 : Int), v5 = .int .i64 x5_5 ∧ Aside0 (spec_l6Filter.j1 kq l0 a1 x5_5 = some (r1, r2)) ∧ Aside0 (kq ≤ kj2) ∧ Aside0 (wc.heap[gb162]? = some (.cells #[.int .i64 0, (.slice none 0 0)] 64 (0, 0))) ∧ Aside0 (Below w.heap.size w wc))
   case first =>
    have H := HC6.out; clear HC6
    by_cases c7 : x5_2 > 8
    ·rw [if_pos c7] at H
     have c7b0 : decide (8 < x5_2) = true := decide_eq_true c7; clear c7; (first | rw [c7b0] | (simp only [i64_w, i32_w]; rw [c7b0]) | skip); have H' := Aside0.mk H; clear H
     go_wp2
     go_meet
     case rel => exact ⟨_, (8), sE, H', ⟨by have := HJ2.out; first | omega | exact Nat.le_refl _⟩, ⟨bK BK162.out⟩, ⟨bL HB.out⟩⟩
    ·rw [if_neg c7] at H
     have c7b0 : decide (8 < x5_2) = false := decide_eq_false c7; clear c7; (first | rw [c7b0] | (simp only [i64_w, i32_w]; rw [c7b0]) | skip); have H' := Aside0.mk H; clear H
     go_wp2
     go_meet
     case rel => exact ⟨_, (x5_2), sE, H', ⟨by have := HJ2.out; first | omega | exact Nat.le_refl _⟩, ⟨bK BK162.out⟩, ⟨bL HB.out⟩⟩
   case rest =>
    clear HC6
    try clear p2
    try clear c3
    try clear c5
    try clear c5b0
    try clear p6
    try clear c7
    try clear c7b0
    try clear p2
    obtain ⟨kq, x5_5, rfl, HA, HJ5, BK162, HB⟩ := hcut
    cases kq with
    | zero => exact absurd HA.out (by simp [spec_l6Filter.j1])
    | succ kj5 =>
     have H := HA.out; clear HA; simp only [spec_l6Filter.j1] at H; have HC8 := Aside0.mk H; clear H
     go_upto_if 25 with (fail)
     go_cut [6] (fun v6 wc => ∃ (kq : Nat) (x6_7 : Int), v6 = .int .i64 x6_7 ∧ Aside0 (spec_l6Filter.j2 kq l0 x5_5 x6_7 = some (r1, r2)) ∧ Aside0 (kq ≤ kj5) ∧ Aside0 (wc.heap[gb162]? = some (.cells #[.int .i64 0, (.slice none 0 0)] 64 (0, 0))) ∧ Aside0 (Below w.heap.size w wc))
     case first =>
      have H := HC8.out; clear HC8
      by_cases c9 : (wrap64 ((l0.length : Int) * a1)) < 64
      ·rw [if_pos c9] at H
       have c9b0 : decide ((wrap64 ((l0.length : Int) * a1)) < 64) = true := decide_eq_true c9; clear c9; (first | rw [c9b0] | (simp only [i64_w, i32_w]; rw [c9b0]) | skip); have H' := Aside0.mk H; clear H
       go_wp2
       go_meet
       case rel => exact ⟨_, (64), sE, H', ⟨by have := HJ2.out; have := HJ5.out; first | omega | exact Nat.le_refl _⟩, ⟨bK BK162.out⟩, ⟨bL HB.out⟩⟩
      ·rw [if_neg c9] at H
       have c9b0 : decide ((wrap64 ((l0.length : Int) * a1)) < 64) = false := decide_eq_false c9; clear c9; (first | rw [c9b0] | (simp only [i64_w, i32_w]; rw [c9b0]) | skip); have H' := Aside0.mk H; clear H
       go_wp2
       go_meet
       case rel => exact ⟨_, (wrap64 ((l0.length : Int) * a1)), sE, H', ⟨by have := HJ2.out; have := HJ5.out; first | omega | exact Nat.le_refl _⟩, ⟨bK BK162.out⟩, ⟨bL HB.out⟩⟩
     case rest =>
      clear HC8
      try clear p2
      try clear c3
      try clear c5
      try clear c5b0
      try clear p6
      try clear c7
      try clear c7b0
      try clear c9
      try clear c9b0
      try clear p2
      try clear p6
      obtain ⟨kq, x6_7, rfl, HA, HJ7, BK162, HB⟩ := hcut
      cases kq with
      | zero => exact absurd HA.out (by simp [spec_l6Filter.j2])
      | succ kj7 =>
       have H := HA.out; clear HA; simp only [spec_l6Filter.j2] at H; have HC10 := Aside0.mk H; clear H
       go_upto_if 30 with (fail)
       go_cut [7] (fun v7 wc => ∃ (kq : Nat) (x7_9 : Int), v7 = .int .i64 x7_9 ∧ Aside0 (spec_l6Filter.j3 kq l0 x5_5 x7_9 = some (r1, r2)) ∧ Aside0 (kq ≤ kj7) ∧ Aside0 (wc.heap[gb162]? = some (.cells #[.int .i64 0, (.slice none 0 0)] 64 (0, 0))) ∧ Aside0 (Below w.heap.size w wc))
       case first =>
        have H := HC10.out; clear HC10
        by_cases c11 : (wrap64 (Int.tdiv (wrap64 (x6_7 + 7)) 8)) > 200
        ·rw [if_pos c11] at H
         have c11b0 : decide (200 < (wrap64 (Int.tdiv (wrap64 (x6_7 + 7)) 8))) = true := decide_eq_true c11; clear c11; (first | rw [c11b0] | (simp only [i64_w, i32_w]; rw [c11b0]) | skip); have H' := Aside0.mk H; clear H
         go_wp2
         go_meet
         case rel => exact ⟨_, (200), sE, H', ⟨by have := HJ2.out; have := HJ5.out; have := HJ7.out; first | omega | exact Nat.le_refl _⟩, ⟨bK BK162.out⟩, ⟨bL HB.out⟩⟩
        ·rw [if_neg c11] at H
         have c11b0 : decide (200 < (wrap64 (Int.tdiv (wrap64 (x6_7 + 7)) 8))) = false := decide_eq_false c11; clear c11; (first | rw [c11b0] | (simp only [i64_w, i32_w]; rw [c11b0]) | skip); have H' := Aside0.mk H; clear H
         go_wp2
         go_meet
         case rel => exact ⟨_, (wrap64 (Int.tdiv (wrap64 (x6_7 + 7)) 8)), sE, H', ⟨by have := HJ2.out; have := HJ5.out; have := HJ7.out; first | omega | exact Nat.le_refl _⟩, ⟨bK BK162.out⟩, ⟨bL HB.out⟩⟩
       case rest =>
        clear HC10
        try clear c1
        try clear p2
        try clear c3
        try clear c5
        try clear c5b0
        try clear p6
        try clear c7
        try clear c7b0
        try clear c9
        try clear c9b0
        try clear c11
        try clear c11b0
        try clear p2
        try clear p6
        obtain ⟨kq, x7_9, rfl, HA, HJ9, BK162, HB⟩ := hcut
        cases kq with
        | zero => exact absurd HA.out (by simp [spec_l6Filter.j3])
        | succ kj9 =>
         have H := HA.out; clear HA; simp only [spec_l6Filter.j3] at H
         by_cases c12 : 0 ≤ x7_9
         ·rw [if_pos c12] at H
          have c12b0 := eq_true c12; have c12b1 : decide (0 ≤ x7_9) = true := decide_eq_true c12; clear c12
          by_cases c13 : (x7_9 : Int).toNat ≤ 281474976710656
          ·rw [if_pos c13] at H
           have c13b0 := eq_true c13; have c13b1 : decide ((x7_9 : Int).toNat ≤ 281474976710656) = true := decide_eq_true c13; clear c13; obtain ⟨y163, hy163⟩ : ∃ y_ : List Int, y_ = (List.replicate (x7_9 : Int).toNat 0) := ⟨_, rfl⟩
           replace H : (spec_l6Filter.l0 kj9 x5_5 x7_9 l0 (l0.length : Int) 0 x5_5 y163) = some (r1, r2) := by first | (rw [hy163]; with_reducible exact H) | (have H2_ := (Option.bind_some _ _).symm.trans H; rw [hy163]; with_reducible exact H2_) | (have H2_ := (Option.bind_some _ _).symm.trans H; with_reducible exact H2_) | with_reducible exact H | (rw [hy163]; exact H) | exact H
           have Ny163 := Aside0.mk hy163; clear hy163; have H' := Aside0.mk H; clear H
           go_wp2_with (first | ((with_reducible refine gate_dst (N := 33) rfl ?_); refine Kd.R_make (Kd.int .u8) _ 5 rfl (N := 33) rfl 24 _ _ rfl x7_9 rfl rfl Try.underlying24 (.int .u8 0) 1 info5 rfl (by decide) (by omega) 0 (ok := fun _ => True) (okp := fun _ => True) rfl (fun _ hk => hk) trivial (oD) (Nat.le_trans (Nat.mul_le_mul_right _ (oD : x7_9.toNat ≤ 281474976710656)) (by omega)) (Below.refl _ _) (Nat.le_refl _) ?_; intro v164 w14 ho15 hb hg_ hnew_; clear hg_ hnew_; (first | rw [← Ny163.out] at ho15 | (simp only [Int.reduceToNat] at ho15; rw [← Ny163.out] at ho15)); have _ := mK (Kd.R_lower ho15 (below_size (bL HB.out))); have _ := mK (blk_below (bK BK162.out) hb); have _ := mK (below_step (bL HB.out) hb); clear BK162 HB; rename_i HO165 BK162 HB; clear hb ho15; obtain ⟨Ao16, co16, eo16⟩ := Kd.R_slice HO165.out; subst eo16) | ((with_reducible refine gate_dst (N := 8) rfl ?_); refine box_event ?hg (N := 8) ?hd (cs := #[.int .i64 0, .slice none 0 0]) (t := 64) ?hr ?_; (case hd => rfl); (case hg => rfl); (case hr => first | (go_simp; done) | (go_simp; rfl)); intro gb166 hg w17 hbox hb; have _ := mK (Kd.R_below (rK HO165.out) hb); have _ := mK (blk_below (bK BK162.out) hb); have _ := mK (below_step (bL HB.out) hb); have _ := mK (hbox); have _ := mK (sL hg (bL HB.out)); have _ := mK (nL hg (bK BK162.out)); have _ := mK (nR hg (bK BK162.out)); clear HO165 BK162 HB; rename_i HO165 BK162 HB BK166 GE166 NB162_166 NB166_162; clear hb hbox hg; have hnb18 := NB166_162.out; have hnc18 := NB162_166.out; obtain ⟨hcz19_0, hcz19_1⟩ := c2 BK166.out; obtain ⟨hfz19_0, hfz19_1⟩ := f2 BK166.out))
           go_loopg [37] kj9 (fun kq v37 w' => ∃ (x37_5 : Int) (x167001_5 : List Int) (u167001 : Value), v37 = .int .i64 x37_5 ∧ Aside0 (spec_l6Filter.l0 kq x5_5 x7_9 l0 (l0.length : Int) x37_5 x5_5 x167001_5 = some (r1, r2)) ∧ Aside0 (kq ≤ kj9) ∧ Aside0 (Kd.R (Kd.int .u8) 5 w' w.heap.size (fun _ => True) u167001 x167001_5) ∧ Aside0 (w'.heap[gb162]? = some (.cells #[.int .i64 0, (.slice none 0 0)] 64 (0, 0))) ∧ Aside0 (w'.heap[gb166]? = some (.cells #[.int .i64 x5_5, u167001] 64 (0, 0))) ∧ Aside0 (Below w.heap.size w w'))
           case atStart => exact ⟨(0), (y163), (.slice Ao16 y163.length co16), sE, H', ⟨Nat.le_refl _⟩, ⟨by (with_reducible repeat (first | apply Kd.R_alloc | apply Kd.R_drewN | apply Kd.R_drew)); exact Kd.R_mono (Kd.R_far (p := ⟨gb166, 1, none⟩) (Kd.R_far (p := ⟨gb166, 0, none⟩) (Kd.R_types HO165.out BK166.out (by decide)) (fun _ hk => hk.2) (.int .i64 x5_5)) (fun _ hk => hk.2) (.slice Ao16 y163.length co16)) (fun _ hk => trivial)⟩, ⟨by (with_reducible repeat (first | refine blk_drewN ?_ _ | refine blk_drew ?_ | refine blk_alloc ?_ _)); refine blk_far ?_ NB162_166.out _; (with_reducible repeat (first | refine blk_drewN ?_ _ | refine blk_drew ?_ | refine blk_alloc ?_ _)); refine blk_far ?_ NB162_166.out _; (with_reducible repeat (first | refine blk_drewN ?_ _ | refine blk_drew ?_ | refine blk_alloc ?_ _)); exact BK162.out⟩, ⟨by (with_reducible repeat (first | refine blk_drewN ?_ _ | refine blk_drew ?_ | refine blk_alloc ?_ _)); refine blk_put (cs := #[.int .i64 x5_5, .slice none 0 0]) ?_ 1 _ rfl; (with_reducible repeat (first | refine blk_drewN ?_ _ | refine blk_drew ?_ | refine blk_alloc ?_ _)); refine blk_put (cs := #[.int .i64 0, .slice none 0 0]) ?_ 0 _ rfl; (with_reducible repeat (first | refine blk_drewN ?_ _ | refine blk_drew ?_ | refine blk_alloc ?_ _)); exact BK166.out⟩, ⟨bL HB.out⟩⟩
           case round =>
            clear H'
            try clear c1
            try clear p2
            try clear c3
            try clear c5
            try clear c5b0
            try clear p6
            try clear c7
            try clear c7b0
            try clear c9
            try clear c9b0
            try clear c11
            try clear c11b0
            try clear c12
            try clear c12b0
            try clear c12b1
            try clear c13
            try clear c13b0
            try clear c13b1
            try clear c18
            try clear hcz19_0
            try clear hcz19_1
            try clear hfz19_0
            try clear hfz19_1
            try clear p2
            try clear p6
            obtain ⟨x37_5, x167001_5, u167001, rfl, HA, HK5, HO_167001, BK162, BK166, HB⟩ := hrel
            cases gk with
            | zero => exact absurd HA.out (by simp [spec_l6Filter.l0])
            | succ k5 =>
             have H := HA.out; clear HA; simp only [spec_l6Filter.l0] at H
             by_cases c20 : x37_5 < (l0.length : Int)
             ·rw [if_pos c20] at H
              have c20b0 : decide (x37_5 < (l0.length : Int)) = true := decide_eq_true c20; clear c20
              by_cases c21 : 0 ≤ x37_5
              ·rw [if_pos c21] at H
               have c21b0 : decide (0 ≤ x37_5) = true := decide_eq_true c21; clear c21
               by_cases c22 : x37_5 < (l0.length : Int)
               ·rw [if_pos c22] at H
                have c22b0 : decide (x37_5 < (l0.length : Int)) = true := decide_eq_true c22; clear c22; replace H := Option.bind_eq_some_iff.mp H; obtain ⟨t168, A230, H⟩ := H; replace H : (spec_l6Filter.l1 k5 x5_5 x7_9 l0 (l0.length : Int) x37_5 t168 (t168.length : Int) 0 x5_5 x167001_5) = some (r1, r2) := H; have A23 := Aside0.mk A230; clear A230; have H' := Aside0.mk H; clear H; have p167 : 0 ≤ (x37_5 : Int) := oD; have q167 : x37_5 < (l0.length : Int) := oD; obtain ⟨ad167, e167, hx167_0⟩ := Kd.at_string HR0.out x37_5 p167 q167
                cases e167
                try (replace hx167_0 := (HB.out.cell (World.block_lt_of_cell? w _ hx167_0)).trans hx167_0)
                replace p167 := eq_true p167; replace q167 := eq_true q167
                go_wp2_with (first | ((with_reducible refine gate_callee (f := 67) rfl ?_); refine gL (some 44) Try.func67 #[.string (rdOf ByteArray.empty l0 x37_5), .int .i64 x5_5, .int .i64 x7_9] ?_; (with_reducible refine (spec_l6Places.calls k5 (rdOf ByteArray.empty l0 x37_5) x5_5 x7_9 t168 _ A23.out).mono ?_); rintro e w24 ⟨v169, rfl, ho0, hb⟩; refine ⟨_, rfl, ?_⟩; have _ := mK (Kd.R_below (rK HO_167001.out) hb); have _ := mK (Kd.R_lower ho0 (below_size (bL HB.out))); have _ := mK (blk_below (bK BK162.out) hb); have _ := mK (blk_below (bK BK166.out) hb); have _ := mK (below_step (bL HB.out) hb); clear HO_167001 BK162 BK166 HB; rename_i HO_167001 HO170 BK162 BK166 HB; (try clear hb); (try clear hb2); (try clear hk); (try clear hi); (try clear ho0); obtain ⟨Ao25, co25, eo25⟩ := Kd.R_slice HO170.out; subst eo25))
                go_loopg [46] k5 (fun kq v46 w' => ∃ (x46_6 : Int) (x167001_6 : List Int) (u167001 : Value), v46 = .int .i64 x46_6 ∧ Aside0 (spec_l6Filter.l1 kq x5_5 x7_9 l0 (l0.length : Int) x37_5 t168 (t168.length : Int) x46_6 x5_5 x167001_6 = some (r1, r2)) ∧ Aside0 (kq ≤ k5) ∧ Aside0 (Kd.R (Kd.int .i64) 3 w' w.heap.size (fun _ => True) (.slice Ao25 t168.length co25) t168) ∧ Aside0 (Kd.R (Kd.int .u8) 5 w' w.heap.size (fun _ => True) u167001 x167001_6) ∧ Aside0 (w'.heap[gb162]? = some (.cells #[.int .i64 0, (.slice none 0 0)] 64 (0, 0))) ∧ Aside0 (w'.heap[gb166]? = some (.cells #[.int .i64 x5_5, u167001] 64 (0, 0))) ∧ Aside0 (Below w.heap.size w w'))
                case atStart => exact ⟨(0), (x167001_5), (u167001), sE, H', ⟨Nat.le_refl _⟩, ⟨rK HO170.out⟩, ⟨rK HO_167001.out⟩, ⟨bK BK162.out⟩, ⟨bK BK166.out⟩, ⟨bL HB.out⟩⟩
                case round =>
                 clear H'
                 try clear c1
                 try clear p1
                 try clear q1
                 try clear hx1
                 try clear c2
                 try clear p2
                 try clear c3
                 try clear c5
                 try clear c5b0
                 try clear c6
                 try clear p6
                 try clear c7
                 try clear c7b0
                 try clear c9
                 try clear c9b0
                 try clear c11
                 try clear c11b0
                 try clear c12
                 try clear c12b0
                 try clear c12b1
                 try clear c13
                 try clear c13b0
                 try clear c13b1
                 try clear p16
                 try clear q16
                 try clear hx16
                 try clear c18
                 try clear c20
                 try clear c20b0
                 try clear c21
                 try clear c21b0
                 try clear c22
                 try clear c22b0
                 try clear hcz19_0
                 try clear hcz19_1
                 try clear hfz19_0
                 try clear hfz19_1
                 try clear hx167_0
                 try clear p167
                 try clear p2
                 try clear p6
                 try clear q167
                 obtain ⟨x46_6, x167001_6, u167001, rfl, HA, HK6, HO_44, HO_167001, BK162, BK166, HB⟩ := hrel
                 cases gk with
                 | zero => exact absurd HA.out (by simp [spec_l6Filter.l1])
                 | succ k6 =>
                  have H := HA.out; clear HA; simp only [spec_l6Filter.l1] at H
                  by_cases c26 : x46_6 < (t168.length : Int)
                  ·rw [if_pos c26] at H
                   have c26b0 : decide (x46_6 < (t168.length : Int)) = true := decide_eq_true c26; clear c26
                   by_cases c27 : 0 ≤ x46_6
                   ·rw [if_pos c27] at H
                    have c27b0 : decide (0 ≤ x46_6) = true := decide_eq_true c27; clear c27
                    by_cases c28 : x46_6 < (t168.length : Int)
                    ·rw [if_pos c28] at H
                     have c28b0 : decide (x46_6 < (t168.length : Int)) = true := decide_eq_true c28; clear c28; obtain ⟨ji29, hji29⟩ : ∃ j_ : Int, (wrap64 (Int.tdiv (rd t168 x46_6) 8)) = j_ := ⟨_, rfl⟩
                     replace H : (if 0 ≤ (ji29) then (if (ji29) < (x167001_6.length : Int) then (if 0 ≤ (IntKind.u64.wrap (Int.tmod (rd t168 x46_6) 8)) then (spec_l6Filter.l1 k6 x5_5 x7_9 l0 (l0.length : Int) x37_5 t168 (t168.length : Int) (wrap64 (x46_6 + 1)) x5_5 (x167001_6.set ((ji29) : Int).toNat (Go.bits .or .u8 (rd x167001_6 (ji29)) (shl .u8 1 (IntKind.u64.wrap (Int.tmod (rd t168 x46_6) 8)))))) else (none)) else (none)) else (none)) = some (r1, r2) := by first | (rw [hji29] at H; exact H) | (simp only [hji29] at H ⊢; exact H)
                     have hji29w : (IntKind.i64.wrap (Int.tdiv (rd t168 x46_6) 8)) = ji29 := (i64_w _).trans hji29
                     by_cases c30 : 0 ≤ (ji29)
                     ·rw [if_pos c30] at H
                      have c30b0 : decide (0 ≤ (ji29)) = true := decide_eq_true c30; clear c30
                      by_cases c31 : (ji29) < (x167001_6.length : Int)
                      ·rw [if_pos c31] at H
                       have c31b0 : decide ((ji29) < (x167001_6.length : Int)) = true := decide_eq_true c31; clear c31; obtain ⟨ji32, hji32⟩ : ∃ j_ : Int, (IntKind.u64.wrap (Int.tmod (rd t168 x46_6) 8)) = j_ := ⟨_, rfl⟩
                       replace H : (if 0 ≤ (ji32) then (spec_l6Filter.l1 k6 x5_5 x7_9 l0 (l0.length : Int) x37_5 t168 (t168.length : Int) (wrap64 (x46_6 + 1)) x5_5 (x167001_6.set ((ji29) : Int).toNat (Go.bits .or .u8 (rd x167001_6 (ji29)) (shl .u8 1 (ji32))))) else (none)) = some (r1, r2) := by first | (rw [hji32] at H; exact H) | (simp only [hji32] at H ⊢; exact H)
                       by_cases c33 : 0 ≤ (ji32)
                       ·rw [if_pos c33] at H
                        have c33b0 := eq_true c33; have c33b1 : decide (0 ≤ (ji32)) = true := decide_eq_true c33; clear c33; obtain ⟨ji34, hji34⟩ : ∃ j_ : Int, (shl .u8 1 (ji32)) = j_ := ⟨_, rfl⟩
                        replace H : (spec_l6Filter.l1 k6 x5_5 x7_9 l0 (l0.length : Int) x37_5 t168 (t168.length : Int) (wrap64 (x46_6 + 1)) x5_5 (x167001_6.set ((ji29) : Int).toNat (Go.bits .or .u8 (rd x167001_6 (ji29)) (ji34)))) = some (r1, r2) := by first | (rw [hji34] at H; exact H) | (simp only [hji34] at H ⊢; exact H)
                        have hji34_ : (IntKind.u8.wrap (1 * 2 ^ min (ji32).toNat 8)) = ji34 := hji34; have hji34z : (ji32) ≤ 8 → (IntKind.u8.wrap (1 * 2 ^ (ji32).toNat)) = ji34 := shl_small hji34
                        have hji34u : (IntKind.u8.wrap (2 ^ min (ji32).toNat 8)) = ji34 := by have h_ := hji34_; rw [Int.one_mul] at h_; exact h_
                        have hji34v : (ji32) ≤ 8 → (IntKind.u8.wrap (2 ^ (ji32).toNat)) = ji34 := fun hle_ => by have h_ := hji34z hle_; rw [Int.one_mul] at h_; exact h_
                        obtain ⟨y173, hy173⟩ : ∃ y_ : List Int, y_ = (x167001_6.set ((ji29) : Int).toNat (Go.bits .or .u8 (rd x167001_6 (ji29)) (ji34))) := ⟨_, rfl⟩
                        replace H : (spec_l6Filter.l1 k6 x5_5 x7_9 l0 (l0.length : Int) x37_5 t168 (t168.length : Int) (wrap64 (x46_6 + 1)) x5_5 y173) = some (r1, r2) := by first | (rw [hy173]; with_reducible exact H) | (have H2_ := (Option.bind_some _ _).symm.trans H; rw [hy173]; with_reducible exact H2_) | (have H2_ := (Option.bind_some _ _).symm.trans H; with_reducible exact H2_) | with_reducible exact H | (rw [hy173]; exact H) | exact H
                        have Ny173 := Aside0.mk hy173; clear hy173; have H' := Aside0.mk H; clear H; have p171 : 0 ≤ (x46_6 : Int) := oD; have q171 : x46_6 < (t168.length : Int) := oD; obtain ⟨ad171, e171, hx171_0⟩ := Kd.at_int (Kd.R_reads' HO_44.out).2.2 x46_6 p171 q171
                        cases e171
                        replace p171 := eq_true p171; replace q171 := eq_true q171; have hnb36 := NB166_162.out; have hnc36 := NB162_166.out; obtain ⟨_, _⟩ := c2 BK166.out; obtain ⟨_, _⟩ := f2 BK166.out; obtain ⟨Ao38, co38, eo38⟩ := Kd.R_slice HO_167001.out; subst eo38; have p172 : 0 ≤ ((ji29) : Int) := oD; have q172 : (ji29) < (x167001_6.length : Int) := oD; obtain ⟨ad172, e172, hx172_0⟩ := Kd.at_int (Kd.R_reads' HO_167001.out).2.2 (ji29) p172 q172
                        cases e172
                        replace p172 := eq_true p172; replace q172 := eq_true q172; have p35 : 0 ≤ ((ji29) : Int) := oD; have q35 : ((ji29) : Int) < ((x167001_6.length : Int) : Int) := oD; obtain ⟨go35, co35, eo35, gb35, gl35, cl35, HG35⟩ := Kd.R_form HO_167001.out (by omega); (first | cases eo35 | (injection eo35 with ea_ en_ ec_; (first | subst ea_ | (injection ea_ with ea_; subst ea_)); subst ec_; clear en_)); have GB35 := Aside0.mk gb35; have GG35 := Aside0.mk HG35; clear gb35 gl35 HG35; (first | simp only [add_plain] at hx172_0 | skip); obtain ⟨hx35_0, hf35_0⟩ := Kd.R_celln 0 HO_167001.out ((ji29) : Int) p35 q35; replace p35 := eq_true p35; replace q35 := eq_true q35; have HP39 := Kd.R_putg HO_167001.out ((ji29) : Int) (Go.bits .or .u8 (rd x167001_6 (ji29)) (ji34))
                        go_wp2_with (first | ((with_reducible refine gate_store (t := 5) (p := 61) rfl ?_); refine store_event (t := 5) (p := 61) (v := ?vo_w40) (w1 := (wr.setCell ⟨go35, ((ji29) : Int).toNat, none⟩ (.int .u8 (Go.bits .or .u8 (rd x167001_6 (ji29)) (ji34))))) ?hg ?ho ?hn ?hr ?_; (case ho => rfl); (case hg => rfl); (case hn => rfl); (case hr => first | (go_simp; done) | (go_simp; rfl)); intro w40 hw; have hg : wr.grownBy w40 (some go35) := (by rw [hw]; exact HP39.2); have hp_ : Kd.R (Kd.int .u8) 5 w40 w.heap.size (fun _ => True) (.slice (some ⟨go35, 0, none⟩) x167001_6.length co38) y173 := (by rw [hw, Ny173.out]; exact HP39.1); clear HP39; have _ := mK (Kd.R_over' (v := (.slice (some ⟨go35, 0, none⟩) x167001_6.length co38)) (rK HO_44.out) (Kd.R_typed HO_167001.out) (by decide) hg); have _ := mK (hp_); have _ := mK (blk_grown (bK BK162.out) hg (Kd.R_ne HO_167001.out BK162.out (by decide))); have _ := mK (blk_grown (bK BK166.out) hg (Kd.R_ne HO_167001.out BK166.out (by decide))); have _ := mK ((by rw [hw]; exact below_set (HB.out) GB35.out : Below w.heap.size w w40)); clear HO_44 HO_167001 BK162 BK166 HB; rename_i HO_44 HO_167001 BK162 BK166 HB; clear hg hw hp_))
                        go_roundg k6
                        case measure => have := HJ2.out; have := HJ5.out; have := HJ7.out; have := HJ9.out; have := HK5.out; have := HK6.out; omega
                        case rel => exact ⟨(wrap64 (x46_6 + 1)), (y173), (.slice (some ⟨go35, 0, none⟩) x167001_6.length co38), sE, H', ⟨by have := HJ2.out; have := HJ5.out; have := HJ7.out; have := HJ9.out; have := HK5.out; have := HK6.out; omega⟩, ⟨rK HO_44.out⟩, ⟨rK HO_167001.out⟩, ⟨bK BK162.out⟩, ⟨bK BK166.out⟩, ⟨bL HB.out⟩⟩
                       ·rw [if_neg c33] at H; exact absurd H (by simp)
                      ·rw [if_neg c31] at H; exact absurd H (by simp)
                     ·rw [if_neg c30] at H; exact absurd H (by simp)
                    ·rw [if_neg c28] at H; exact absurd H (by simp)
                   ·rw [if_neg c27] at H; exact absurd H (by simp)
                  ·rw [if_neg c26] at H
                   have c26b0 : decide (x46_6 < (t168.length : Int)) = false := decide_eq_false c26; clear c26; have H' := Aside0.mk H; clear H
                   go_wp2
                   go_roundg k6
                   case measure => have := HJ2.out; have := HJ5.out; have := HJ7.out; have := HJ9.out; have := HK5.out; have := HK6.out; omega
                   case rel => exact ⟨(wrap64 (x37_5 + 1)), (x167001_6), (u167001), sE, H', ⟨by have := HJ2.out; have := HJ5.out; have := HJ7.out; have := HJ9.out; have := HK5.out; have := HK6.out; omega⟩, ⟨rK HO_167001.out⟩, ⟨bK BK162.out⟩, ⟨bK BK166.out⟩, ⟨bL HB.out⟩⟩
               ·rw [if_neg c22] at H; exact absurd H (by simp)
              ·rw [if_neg c21] at H; exact absurd H (by simp)
             ·rw [if_neg c20] at H
              have c20b0 : decide (x37_5 < (l0.length : Int)) = false := decide_eq_false c20; clear c20; simp only [Option.some.injEq, Prod.mk.injEq] at H; obtain ⟨rfl, rfl⟩ := H; have hnb41 := NB166_162.out; have hnc41 := NB162_166.out; obtain ⟨_, _⟩ := c2 BK166.out; obtain ⟨_, _⟩ := f2 BK166.out; obtain ⟨_, _⟩ := c2 BK162.out; obtain ⟨_, _⟩ := f2 BK162.out; obtain ⟨Ao44, co44, eo44⟩ := Kd.R_slice HO_167001.out; subst eo44
              go_wp2
              refine bodyPost_ret (results_cell_row rfl _ _ gb162 64 #[.int .i64 x5_5, .slice Ao44 x167001_5.length co44] (0, 0) _ rfl (by exact bK (p2 BK162.out)) Try.underlying64 rfl (by kernel_rfl)) rfl ?_; exact ⟨_, sE, by (with_reducible repeat (first | apply Kd.R_alloc | apply Kd.R_drewN | apply Kd.R_drew)); exact Kd.R_mono (Kd.R_far (p := ⟨gb162, 1, none⟩) (Kd.R_far (p := ⟨gb162, 0, none⟩) (Kd.R_types HO_167001.out BK162.out (by decide)) (fun _ hk => hk.2) (.int .i64 x5_5)) (fun _ hk => hk.2) (.slice Ao44 x167001_5.length co44)) (fun _ hk => trivial), bL HB.out⟩
          ·rw [if_neg c13] at H; exact absurd H (by simp)
         ·rw [if_neg c12] at H; exact absurd H (by simp)
end Go.Proofs.Ytllmlnagihlokaa.PFnExactBoundsOf
