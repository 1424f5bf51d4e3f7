-- Written for this claim by a program of this session: a scratch copy of the kit's print with patches of this session.
import Derived.Test.YtncnfkcnimfbmaaPFnExactJoinAggsx0
import Derived.Test.YtncnfkcnimfbmaaPFnExactJoinAggsx5
namespace Go.Proofs.Ytncnfkcnimfbmaa.PFnExactJoinAggs
open Go.RowKit Go.Proofs.YtncnfkcnimfbmaaW.PrintWords Go.Proofs.YtncnfkcnimfbmaaW.PrintLast Go.Proofs.YtncnfkcnimfbmaaW.PrintMore
attribute [local go_sem] max2_int min2_int max_two min_two max_three min_three max_four min_four hw_string_geq hw_string_gtr hw_string_leq   -- for this text's walks alone
set_option linter.unusedVariables false
set_option linter.unusedSimpArgs false

/-! ### impl_joined: function 22, by hand -/
def impl_joined.cap (n : Int) (f : Bool) : Int × Bool := if n > 1000000000 then (1000000000, true) else (n, f)
def impl_joined.h : List Int → List Int → Bool → List Int × Bool
  | a :: p, b :: q, f => ((impl_joined.cap (a + b) f).1 :: (impl_joined.h p q (impl_joined.cap (a + b) f).2).1, (impl_joined.h p q (impl_joined.cap (a + b) f).2).2)
  | _, _, f => ([], f)
def impl_joined.ok (a0 a1 : Int) (l : List Int) : Bool := decide (0 ≤ a0 ∧ a0 ≤ 1000000000) && (decide (-1000000000000000000 ≤ a1 ∧ a1 ≤ 1000000000000000000) && (decide (l.length = 8) && l.all (fun x => decide (0 ≤ x ∧ x ≤ 1000000000))))
def impl_joined.f (a0_0 : Int) (a0_1 : Int) (a0_2 : Int) (a0_3 : Int) (l0_4 : List Int) (a0_5 : Bool) (a1_0 : Int) (a1_1 : Int) (a1_2 : Int) (a1_3 : Int) (l1_4 : List Int) (a1_5 : Bool) : Option (Int × Int × Int × Int × List Int × Bool) :=
  if impl_joined.ok a0_0 a0_1 l0_4 && impl_joined.ok a1_0 a1_1 l1_4 then
    some ((impl_joined.cap (a0_0 + a1_0) (a0_5 || a1_5)).1,
      (if (impl_joined.h l0_4 l1_4 (impl_joined.cap (a0_0 + a1_0) (a0_5 || a1_5)).2).2 = true then 0 else a0_1 + a1_1),
      (if a0_0 = 0 then a1_2 else if a1_0 = 0 then a0_2 else mn a0_2 a1_2),
      (if a0_0 = 0 then a1_3 else if a1_0 = 0 then a0_3 else mx a0_3 a1_3),
      (impl_joined.h l0_4 l1_4 (impl_joined.cap (a0_0 + a1_0) (a0_5 || a1_5)).2).1,
      (impl_joined.h l0_4 l1_4 (impl_joined.cap (a0_0 + a1_0) (a0_5 || a1_5)).2).2)
  else none
theorem impl_joined.h_len : ∀ (a b : List Int) (f : Bool), a.length = b.length → (impl_joined.h a b f).1.length = a.length
  | [], [], f, _ => rfl
  | a :: p, b :: q, f, h => by simp [impl_joined.h, impl_joined.h_len p q _ (by simpa using h)]
theorem impl_joined.ok_open {a0 a1 : Int} {l : List Int} (h : impl_joined.ok a0 a1 l = true) : (0 ≤ a0 ∧ a0 ≤ 1000000000) ∧ (-1000000000000000000 ≤ a1 ∧ a1 ≤ 1000000000000000000) ∧ l.length = 8 ∧ ∀ x ∈ l, 0 ≤ x ∧ x ≤ 1000000000 := by
  unfold impl_joined.ok at h
  simp only [Bool.and_eq_true, decide_eq_true_eq] at h
  exact ⟨h.1, h.2.1, h.2.2.1, fun x hx => by simpa using List.all_eq_true.1 h.2.2.2 x hx⟩
/-- the block of out, written -/
structure impl_joined.Cd (g : Nat) (W : World) (cs : Array Value) (V : World) : Prop where
  on : On g W V
  blk : V.heap[g]? = some (.cells cs 26 (0, 0))
set_option maxHeartbeats 8000000 in
set_option maxRecDepth 100000 in
/-- the literal capped -/
theorem impl_joined.capd (n : Int) (F : Bool) (c : Int) (f : Bool) (hcf : impl_joined.cap n F = (c, f)) (c0 c1 c2 c3 v : Value) (g : Nat) (W : World) (hb : W.heap[g]? = some (.cells #[c0, c1, c2, c3, v, .bool F] 26 (0, 0))) :
    Calls Try.prog 36 #[.int .i64 n, .pointer (some ⟨g, 0, none⟩)] W fun e V => e = .returned (.int .i64 c) ∧ impl_joined.Cd g W #[c0, c1, c2, c3, v, .bool f] V := by
  have hu := Try.underlying26
  have HB := Aside0.mk hb
  clear hb
  have hc : W.cell? ⟨g, 5, none⟩ = some (.bool F) := (blk_cell HB.out 5).trans rfl
  have hf : W.frozen? ⟨g, 5, none⟩ = false := blk_frozen HB.out 5
  by_cases hn : n > 1000000000
  · have hcap : impl_joined.cap n F = (1000000000, true) := by unfold impl_joined.cap; rw [if_pos hn]
    rw [hcap] at hcf
    obtain ⟨rfl, rfl⟩ := Prod.mk.inj hcf
    clear hcap hcf
    go_enter Try.func36, Try.ntmps36
    go_wp2
    go_ret
    exact ⟨by first | rfl | (simp; done) | (simp only [Ending.returned.injEq, Value.int.injEq, true_and]; omega) | (congr 2; omega), ⟨by repeat (first | exact On.refl _ _ | apply On.drewN | apply On.drew | refine On.set ?_ _ _), by (with_reducible repeat (first | refine blk_drewN ?_ _ | refine blk_drew ?_)); exact blk_put HB.out 5 _ rfl⟩⟩
  · have hcap : impl_joined.cap n F = (n, F) := by unfold impl_joined.cap; rw [if_neg hn]
    rw [hcap] at hcf
    obtain ⟨rfl, rfl⟩ := Prod.mk.inj hcf
    clear hcap hcf
    go_enter Try.func36, Try.ntmps36
    go_wp2
    go_ret
    exact ⟨by first | rfl | (simp; done) | (simp only [Ending.returned.injEq, Value.int.injEq, true_and]; omega) | (congr 2; omega), ⟨by repeat (first | exact On.refl _ _ | apply On.drewN | apply On.drew), by (with_reducible repeat (first | refine blk_drewN ?_ _ | refine blk_drew ?_)); exact HB.out⟩⟩
/-- what is so in the rounds -/
structure impl_joined.St (w0 W : World) (g2 g3 g4 g5 : Nat) (ca cb : Array Value) (c0 c1 c2 c3 v : Value) (l : List Int) (F : Bool) : Prop where
  ba : W.heap[g2]? = some (.cells ca 26 (0, 0))
  bb : W.heap[g3]? = some (.cells cb 26 (0, 0))
  bz : W.heap[g4]? = some (.cells #[.int .i64 0, .int .i64 0, .int .i64 0, .int .i64 0, .slice none 0 0, .bool false] 26 (0, 0))
  bo : W.heap[g5]? = some (.cells #[c0, c1, c2, c3, v, .bool F] 26 (0, 0))
  row : Kd.R (Kd.int .i64) 3 W w0.heap.size (fun _ => True) v l
  bel : Below w0.heap.size w0 W
structure impl_joined.Gs (B g2 g3 g4 g5 : Nat) : Prop where
  m4 : B ≤ g4
  m5 : B ≤ g5
  n25 : g2 ≠ g5
  n35 : g3 ≠ g5
  n45 : g4 ≠ g5
section
variable {w0 W V : World} {g2 g3 g4 g5 : Nat} {ca cb : Array Value} {c0 c1 c2 c3 d0 d1 d2 d3 v : Value} {l : List Int} {F F2 : Bool}
theorem impl_joined.St.drew (h : impl_joined.St w0 W g2 g3 g4 g5 ca cb c0 c1 c2 c3 v l F) : impl_joined.St w0 W.drew g2 g3 g4 g5 ca cb c0 c1 c2 c3 v l F := ⟨h.ba, h.bb, h.bz, h.bo, Kd.R_drew h.row, below_drew1 h.bel⟩
theorem impl_joined.St.drewN (h : impl_joined.St w0 W g2 g3 g4 g5 ca cb c0 c1 c2 c3 v l F) (n : Nat) : impl_joined.St w0 (W.drewN n) g2 g3 g4 g5 ca cb c0 c1 c2 c3 v l F := ⟨h.ba, h.bb, h.bz, h.bo, Kd.R_drewN h.row n, pw_below_drewN h.bel n⟩
theorem impl_joined.St.on5 (h : impl_joined.St w0 W g2 g3 g4 g5 ca cb c0 c1 c2 c3 v l F) (G : impl_joined.Gs w0.heap.size g2 g3 g4 g5) (k : On g5 W V) (hb : V.heap[g5]? = some (.cells #[d0, d1, d2, d3, v, .bool F2] 26 (0, 0))) : impl_joined.St w0 V g2 g3 g4 g5 ca cb d0 d1 d2 d3 v l F2 :=
  ⟨k.blk h.ba G.n25, k.blk h.bb G.n35, k.blk h.bz G.n45, hb, k.Rt h.row h.bo (by decide), k.below h.bel G.m5⟩
theorem impl_joined.St.row' {go n c : Nat} (h : impl_joined.St w0 W g2 g3 g4 g5 ca cb c0 c1 c2 c3 (.slice (some ⟨go, 0, none⟩) n c) l F) (hgo : w0.heap.size ≤ go) (i : Nat) (x : Int) : impl_joined.St w0 (W.setCell ⟨go, i, none⟩ (.int .i64 x)) g2 g3 g4 g5 ca cb c0 c1 c2 c3 (.slice (some ⟨go, 0, none⟩) n c) (l.set i x) F := by
  have ne : ∀ {g : Nat} {cs : Array Value}, W.heap[g]? = some (.cells cs 26 (0, 0)) → g ≠ go := fun hb e => Kd.R_ne h.row hb (by decide) (by rw [e]; rfl)
  have hr := Kd.R_putn h.row (i : Int) x
  rw [Int.toNat_natCast] at hr
  exact ⟨blk_far h.ba (ne h.ba) _, blk_far h.bb (ne h.bb) _, blk_far h.bz (ne h.bz) _, blk_far h.bo (ne h.bo) _, hr, below_set h.bel hgo⟩
end
theorem impl_joined.cell_at {w V : World} {ad : Addr} {l : List Int} (hr : Kd.C (Kd.int .i64) w (some ad) l.length l) (hB : Below w.heap.size w V) (kk : Nat) (h : kk < l.length) : V.cell? (ad.add kk) = some (.int .i64 (l[kk]'h)) := by
  obtain ⟨ad2, e, hx⟩ := Kd.at_int (Kd.C_below hr hB) (kk : Int) (by omega) (by omega)
  cases e
  rw [Int.toNat_natCast] at hx
  rw [hx]
  unfold rd
  rw [Int.toNat_natCast, List.getD_eq_getElem?_getD, List.getElem?_eq_getElem h]
  rfl
theorem impl_joined.set_next (Hp : List Int) (x : Int) (kk : Nat) (h : Hp.length = kk) (hk : kk < 8) : (Hp ++ List.replicate (8 - kk) (0 : Int)).set kk x = (Hp ++ [x]) ++ List.replicate (8 - (kk + 1)) 0 := by
  rw [show 8 - kk = (8 - (kk + 1)) + 1 by omega, List.replicate_succ, List.set_append_right _ _ (by omega)]
  simp [h]
set_option maxHeartbeats 8000000 in
set_option maxRecDepth 100000 in
theorem impl_joined.calls_true (a0_0 : Int) (a0_1 : Int) (a0_2 : Int) (a0_3 : Int) (A0_4 : Option Addr) (c0_4 : Nat) (l0_4 : List Int) (a1_0 : Int) (a1_1 : Int) (a1_2 : Int) (a1_3 : Int) (A1_4 : Option Addr) (c1_4 : Nat) (l1_4 : List Int) (a1_5 : Bool) (cc S M X : Int) (f1 FF : Bool) (H : List Int) (w : World) (hr0_4 : Kd.C (Kd.int .i64) w A0_4 l0_4.length l0_4) (hc0_4 : l0_4.length ≤ c0_4) (hr1_4 : Kd.C (Kd.int .i64) w A1_4 l1_4.length l1_4) (hc1_4 : l1_4.length ≤ c1_4)
    (k0 : impl_joined.ok a0_0 a0_1 l0_4 = true) (k1 : impl_joined.ok a1_0 a1_1 l1_4 = true) (hcc : impl_joined.cap (a0_0 + a1_0) true = (cc, f1)) (hH : impl_joined.h l0_4 l1_4 f1 = (H, FF)) (hS : S = if FF = true then 0 else a0_1 + a1_1) (hM : M = if a0_0 = 0 then a1_2 else if a1_0 = 0 then a0_2 else mn a0_2 a1_2) (hX : X = if a0_0 = 0 then a1_3 else if a1_0 = 0 then a0_3 else mx a0_3 a1_3) :
    Calls Try.prog 22 #[.agg #[.int .i64 a0_0, .int .i64 a0_1, .int .i64 a0_2, .int .i64 a0_3, .slice A0_4 l0_4.length c0_4, .bool true], .agg #[.int .i64 a1_0, .int .i64 a1_1, .int .i64 a1_2, .int .i64 a1_3, .slice A1_4 l1_4.length c1_4, .bool a1_5]] w fun e w' => ∃ v4_ : Value, e = .returned (.agg #[.int .i64 cc, .int .i64 S, .int .i64 M, .int .i64 X, v4_, .bool FF]) ∧ Kd.R (Kd.int .i64) 3 w' w.heap.size (fun _ => True) v4_ H ∧ Below w.heap.size w w' := by
  have hu26 := Try.underlying26
  obtain ⟨⟨p0a, p0b⟩, ⟨p1a, p1b⟩, n0, x0⟩ := impl_joined.ok_open k0
  obtain ⟨⟨q0a, q0b⟩, ⟨q1a, q1b⟩, n1, x1⟩ := impl_joined.ok_open k1
  have HR0 := Aside0.mk hr0_4
  have HC0 := Aside0.mk hc0_4
  have HR1 := Aside0.mk hr1_4
  have HC1 := Aside0.mk hc1_4
  have N0 := Aside0.mk n0
  have N1 := Aside0.mk n1
  have X0 := Aside0.mk x0
  have X1 := Aside0.mk x1
  have HCC := Aside0.mk hcc
  have HH := Aside0.mk hH
  have HS := Aside0.mk hS
  have HM := Aside0.mk hM
  have HX := Aside0.mk hX
  clear k0 k1 hr0_4 hc0_4 hr1_4 hc1_4 n0 n1 x0 x1 hcc hH hS hM hX
  obtain ⟨y0, hy0⟩ : ∃ y : List Int, y = List.replicate 8 (0 : Int) := ⟨_, rfl⟩
  have Ny0 := Aside0.mk hy0
  have LY := Aside0.mk (show y0.length = 8 by rw [hy0]; rfl)
  clear hy0
  have HB := Aside0.mk (Below.refl w.heap.size w)
  go_enter Try.func22, Try.ntmps22
  go_wp2_with (first | ((with_reducible refine gate_dst (N := 2) rfl ?_); refine box_event ?hg (N := 2) ?hd (cs := #[.int .i64 a0_0, .int .i64 a0_1, .int .i64 a0_2, .int .i64 a0_3, .slice A0_4 l0_4.length c0_4, .bool true]) (t := 26) ?hr ?_; (case hd => rfl); (case hg => rfl); (case hr => first | (go_simp; done) | (go_simp; rfl)); intro g2 hg w2 hbox hb; have HB2 := Aside0.mk (below_step (by repeat (first | exact HB.out | apply below_alloc | apply pw_below_drewN | apply below_drew1)) hb); have BA2 := Aside0.mk hbox; clear hb hbox hg) | ((with_reducible refine gate_dst (N := 3) rfl ?_); refine box_event ?hg (N := 3) ?hd (cs := #[.int .i64 a1_0, .int .i64 a1_1, .int .i64 a1_2, .int .i64 a1_3, .slice A1_4 l1_4.length c1_4, .bool a1_5]) (t := 26) ?hr ?_; (case hd => rfl); (case hg => rfl); (case hr => first | (go_simp; done) | (go_simp; rfl)); intro g3 hg w3 hbox hb; have BA3 := Aside0.mk (blk_below BA2.out hb); have HB3 := Aside0.mk (below_step HB2.out hb); have BB3 := Aside0.mk hbox; clear hb hbox hg) | ((with_reducible refine gate_dst (N := 4) rfl ?_); refine box_event ?hg (N := 4) ?hd (cs := #[.int .i64 0, .int .i64 0, .int .i64 0, .int .i64 0, .slice none 0 0, .bool false]) (t := 26) ?hr ?_; (case hd => rfl); (case hg => rfl); (case hr => first | (go_simp; done) | (go_simp; rfl)); intro g4 hg w4 hbox hb; have BA4 := Aside0.mk (blk_below BA3.out hb); have BB4 := Aside0.mk (blk_below BB3.out hb); have HB4 := Aside0.mk (below_step HB3.out hb); have BZ4 := Aside0.mk hbox; have M4 := Aside0.mk ((by rw [hg]; exact below_size HB3.out) : w.heap.size ≤ g4); clear hb hbox hg) | ((with_reducible refine gate_callee (f := 35) rfl ?_); refine goesL_ (some 8) rfl rfl Try.func35 (by kernel_rfl) rfl #[] rfl (by (try simp only [List.map_toArray, List.map_cons, List.map_nil]); first | done | rfl) ?_; (refine (impl_noAgg.calls 0 0 0 0 y0 false _ (by rw [Ny0.out]; rfl)).mono ?_); rintro e w5 ⟨v5, rfl, ho, hb⟩; refine ⟨_, rfl, ?_⟩; have HO5 := Aside0.mk (Kd.R_lower ho (below_size (by repeat (first | exact HB4.out | apply below_alloc | apply pw_below_drewN | apply below_drew1)))); have BA5 := Aside0.mk (blk_below (by (with_reducible repeat (first | refine blk_drewN ?_ _ | refine blk_drew ?_)); exact BA4.out) hb); have BB5 := Aside0.mk (blk_below (by (with_reducible repeat (first | refine blk_drewN ?_ _ | refine blk_drew ?_)); exact BB4.out) hb); have BZ5 := Aside0.mk (blk_below (by (with_reducible repeat (first | refine blk_drewN ?_ _ | refine blk_drew ?_)); exact BZ4.out) hb); have HB5 := Aside0.mk (below_step (by repeat (first | exact HB4.out | apply below_alloc | apply pw_below_drewN | apply below_drew1)) hb); clear ho hb; obtain ⟨go, co, eo, hgo, hgl, cells5, hcells⟩ := Kd.R_form HO5.out (by have := LY.out; omega); have MGO := Aside0.mk hgo; clear hgo hgl hcells; subst eo) | ((with_reducible refine gate_dst (N := 5) rfl ?_); refine box_event ?hg (N := 5) ?hd (cs := #[.int .i64 0, .int .i64 0, .int .i64 0, .int .i64 0, .slice none 0 0, .bool false]) (t := 26) ?hr ?_; (case hd => rfl); (case hg => rfl); (case hr => first | (go_simp; done) | (go_simp; rfl)); intro g5 hg w6 hbox hb; have GS := Aside0.mk (impl_joined.Gs.mk M4.out (by rw [hg]; exact below_size HB5.out) (by rw [hg]; exact Nat.ne_of_lt (blk_lt BA5.out)) (by rw [hg]; exact Nat.ne_of_lt (blk_lt BB5.out)) (by rw [hg]; exact Nat.ne_of_lt (blk_lt BZ5.out)) : impl_joined.Gs w.heap.size g2 g3 g4 g5); have BA6 := Aside0.mk (blk_below BA5.out hb); have BB6 := Aside0.mk (blk_below BB5.out hb); have BZ6 := Aside0.mk (blk_below BZ5.out hb); have BO6 := Aside0.mk hbox; have HO6 := Aside0.mk (Kd.R_below HO5.out hb); have HB6 := Aside0.mk (below_step HB5.out hb); clear hb hbox hg; have hz0 := (blk_cell BO6.out 0); have hz1 := (blk_cell BO6.out 1); have hz2 := (blk_cell BO6.out 2); have hz3 := (blk_cell BO6.out 3); have hz4 := (blk_cell BO6.out 4); have hz5 := (blk_cell BO6.out 5); simp only [List.getElem?_toArray, List.getElem?_cons_zero, List.getElem?_cons_succ] at hz0 hz1 hz2 hz3 hz4 hz5; have hf0 := blk_frozen BO6.out 0; have hf1 := blk_frozen BO6.out 1; have hf2 := blk_frozen BO6.out 2; have hf3 := blk_frozen BO6.out 3; have hf4 := blk_frozen BO6.out 4; have hf5 := blk_frozen BO6.out 5) | ((with_reducible refine gate_store (t := 26) (p := 5) rfl ?_); refine store_event (t := 26) (p := 5) (v := ?vo_9017) (w1 := setAll w6 g5 0 [.int .i64 0, .int .i64 0, .int .i64 0, .int .i64 0, (.slice (some ⟨go, 0, none⟩) y0.length co), .bool false]) ?hg ?ho ?hn ?hr ?_; (case ho => rfl); (case hg => rfl); (case hn => rfl); (case hr => first | (go_simp; done) | (go_simp; rfl)); intro w7 hw; have ON7 : On g5 w6 w7 := (by rw [hw]; exact setAll_on _ _ _ _); have BO7 : w7.heap[g5]? = some (.cells #[.int .i64 0, .int .i64 0, .int .i64 0, .int .i64 0, (.slice (some ⟨go, 0, none⟩) y0.length co), .bool false] 26 (0, 0)) := (by rw [hw]; exact setAll_blk _ BO6.out rfl); have S7 := Aside0.mk (⟨ON7.blk BA6.out GS.out.n25, ON7.blk BB6.out GS.out.n35, ON7.blk BZ6.out GS.out.n45, BO7, ON7.Rt HO6.out BO6.out (by decide), ON7.below HB6.out GS.out.m5⟩ : impl_joined.St w w7 g2 g3 g4 g5 #[.int .i64 a0_0, .int .i64 a0_1, .int .i64 a0_2, .int .i64 a0_3, .slice A0_4 l0_4.length c0_4, .bool true] #[.int .i64 a1_0, .int .i64 a1_1, .int .i64 a1_2, .int .i64 a1_3, .slice A1_4 l1_4.length c1_4, .bool a1_5] (.int .i64 0) (.int .i64 0) (.int .i64 0) (.int .i64 0) (.slice (some ⟨go, 0, none⟩) y0.length co) y0 false); clear hw ON7 BO7 hz0 hz1 hz2 hz3 hz4 hz5 hf0 hf1 hf2 hf3 hf4 hf5 BA6 BB6 BZ6 BO6 HO6 HB6; have ha5 : w7.cell? ⟨g2, 5, none⟩ = some (.bool true) := (blk_cell S7.out.ba 5).trans rfl; have hb5 : w7.cell? ⟨g3, 5, none⟩ = some (.bool a1_5) := (blk_cell S7.out.bb 5).trans rfl; have hc5 : w7.cell? ⟨g5, 5, none⟩ = some (.bool false) := (blk_cell S7.out.bo 5).trans rfl; have hf5 := blk_frozen S7.out.bo 5) | ((with_reducible refine gate_store (t := 4) (p := 15) rfl ?_); refine store_event (t := 4) (p := 15) (v := ?vo_9018) (w1 := w7.setCell ⟨g5, 5, none⟩ (.bool true)) ?hg ?ho ?hn ?hr ?_; (case ho => rfl); (case hg => rfl); (case hn => rfl); (case hr => first | (go_simp; done) | (go_simp; rfl)); intro w8 hw; have S8 := Aside0.mk ((by rw [hw]; exact S7.out.on5 GS.out ((On.refl _ _).set 5 _) (blk_put S7.out.bo 5 _ rfl)) : impl_joined.St w w8 g2 g3 g4 g5 #[.int .i64 a0_0, .int .i64 a0_1, .int .i64 a0_2, .int .i64 a0_3, .slice A0_4 l0_4.length c0_4, .bool true] #[.int .i64 a1_0, .int .i64 a1_1, .int .i64 a1_2, .int .i64 a1_3, .slice A1_4 l1_4.length c1_4, .bool a1_5] (.int .i64 0) (.int .i64 0) (.int .i64 0) (.int .i64 0) (.slice (some ⟨go, 0, none⟩) y0.length co) y0 true); clear hw ha5 hb5 hc5 hf5; have ha0 : w8.cell? ⟨g2, 0, none⟩ = some (.int .i64 a0_0) := (blk_cell S8.out.ba 0).trans rfl; have hb0 : w8.cell? ⟨g3, 0, none⟩ = some (.int .i64 a1_0) := (blk_cell S8.out.bb 0).trans rfl) | (go_at_call 36; (with_reducible refine (impl_joined.capd (a0_0 + a1_0) true cc f1 HCC.out (.int .i64 0) (.int .i64 0) (.int .i64 0) (.int .i64 0) (.slice (some ⟨go, 0, none⟩) y0.length co) g5 _ (by (with_reducible repeat (first | refine blk_drewN ?_ _ | refine blk_drew ?_)); exact S8.out.bo)).mono ?_); rintro e w9 ⟨rfl, hcd⟩; have S9 := Aside0.mk (impl_joined.St.on5 (by repeat (first | exact S8.out | apply impl_joined.St.drewN | apply impl_joined.St.drew)) GS.out hcd.on hcd.blk); clear hcd ha0 hb0; have hd0 : w9.cell? ⟨g5, 0, none⟩ = some (.int .i64 0) := (blk_cell S9.out.bo 0).trans rfl; have he0 := blk_frozen S9.out.bo 0) | ((with_reducible refine gate_store (t := 3) (p := 24) rfl ?_); refine store_event (t := 3) (p := 24) (v := ?vo_9019) (w1 := w9.setCell ⟨g5, 0, none⟩ (.int .i64 cc)) ?hg ?ho ?hn ?hr ?_; (case ho => rfl); (case hg => rfl); (case hn => rfl); (case hr => first | (go_simp; done) | (go_simp; rfl)); intro w10 hw; have S10 := Aside0.mk ((by rw [hw]; exact S9.out.on5 GS.out ((On.refl _ _).set 0 _) (blk_put S9.out.bo 0 _ rfl)) : impl_joined.St w w10 g2 g3 g4 g5 #[.int .i64 a0_0, .int .i64 a0_1, .int .i64 a0_2, .int .i64 a0_3, .slice A0_4 l0_4.length c0_4, .bool true] #[.int .i64 a1_0, .int .i64 a1_1, .int .i64 a1_2, .int .i64 a1_3, .slice A1_4 l1_4.length c1_4, .bool a1_5] (.int .i64 cc) (.int .i64 0) (.int .i64 0) (.int .i64 0) (.slice (some ⟨go, 0, none⟩) y0.length co) y0 f1); clear hw hd0 he0; have hg4 : w10.cell? ⟨g5, 4, none⟩ = some (.slice (some ⟨go, 0, none⟩) y0.length co) := (blk_cell S10.out.bo 4).trans rfl))
  go_loopg [28] 8 (fun gg v28 w' => ∃ (kk : Nat) (Hp : List Int) (F : Bool), kk ≤ 8 ∧ 8 - kk ≤ gg ∧ v28 = .int .i64 kk ∧ Aside0 (Hp.length = kk ∧ Hp ++ (impl_joined.h (l0_4.drop kk) (l1_4.drop kk) F).1 = H ∧ (impl_joined.h (l0_4.drop kk) (l1_4.drop kk) F).2 = FF) ∧ Aside0 (impl_joined.St w w' g2 g3 g4 g5 #[.int .i64 a0_0, .int .i64 a0_1, .int .i64 a0_2, .int .i64 a0_3, .slice A0_4 l0_4.length c0_4, .bool true] #[.int .i64 a1_0, .int .i64 a1_1, .int .i64 a1_2, .int .i64 a1_3, .slice A1_4 l1_4.length c1_4, .bool a1_5] (.int .i64 cc) (.int .i64 0) (.int .i64 0) (.int .i64 0) (.slice (some ⟨go, 0, none⟩) y0.length co) (Hp ++ List.replicate (8 - kk) 0) F))
  case atStart => exact ⟨0, [], f1, by omega, by omega, rfl, ⟨rfl, by have := HH.out; simp [this], by have := HH.out; simp [this]⟩, ⟨by (try simp only [List.nil_append, Nat.sub_zero]); rw [← Ny0.out]; repeat (first | exact S10.out | apply impl_joined.St.drewN | apply impl_joined.St.drew)⟩⟩
  case round =>
    obtain ⟨kk, Hp, F, hkk, hg, rfl, HP, ST⟩ := hrel
    clear hg4 S10 HH
    by_cases hlt : kk < 8
    · have hly := LY.out
      have hl0 := N0.out
      have hl1 := N1.out
      have hltz : (kk : Int) < (y0.length : Int) := by omega
      have hlt0 : (kk : Int) < (l0_4.length : Int) := by omega
      have hlt1 : (kk : Int) < (l1_4.length : Int) := by omega
      have hk0 : (0 : Int) ≤ (kk : Int) := by omega
      obtain ⟨ada, ea, _⟩ := Kd.at_int HR0.out (kk : Int) hk0 hlt0
      cases ea
      obtain ⟨adb, eb, _⟩ := Kd.at_int HR1.out (kk : Int) hk0 hlt1
      cases eb
      have hk8 : kk < l0_4.length := by omega
      have hk9 : kk < l1_4.length := by omega
      have hXA : ∀ V, Below w.heap.size w V → V.cell? (ada.add kk) = some (.int .i64 (l0_4[kk]'hk8)) := fun V hB => impl_joined.cell_at HR0.out hB kk hk8
      have hXB : ∀ V, Below w.heap.size w V → V.cell? (adb.add kk) = some (.int .i64 (l1_4[kk]'hk9)) := fun V hB => impl_joined.cell_at HR1.out hB kk hk9
      have hP := HP.out
      rw [List.drop_eq_getElem_cons hk8, List.drop_eq_getElem_cons hk9] at hP
      obtain ⟨ra1, ra2⟩ := X0.out _ (List.getElem_mem hk8)
      obtain ⟨rb1, rb2⟩ := X1.out _ (List.getElem_mem hk9)
      generalize l0_4[kk]'hk8 = a at hXA hP ra1 ra2
      generalize l1_4[kk]'hk9 = b at hXB hP rb1 rb2
      have XA := Aside0.mk hXA
      have XB := Aside0.mk hXB
      clear hly hl0 hl1 HP hk8 hk9 hXA hXB
      simp only [impl_joined.h] at hP
      obtain ⟨⟨c', f'⟩, hcf⟩ : ∃ p : Int × Bool, impl_joined.cap (a + b) F = p := ⟨_, rfl⟩
      rw [hcf] at hP
      simp only at hP
      have HCF := Aside0.mk hcf
      have HP2 := Aside0.mk hP
      clear hcf hP
      go_wp2
      have S1 := Aside0.mk (impl_joined.St.drew ST.out)
      refine start_ (n := 18) (S := fun w' => w'.cell? ⟨g5, 4, none⟩ = some (.slice (some ⟨go, 0, none⟩) y0.length co) ∧ w'.cell? ⟨g2, 4, none⟩ = some (.slice (some ada) l0_4.length c0_4) ∧ w'.cell? (ada.add kk) = some (.int .i64 a) ∧ w'.cell? ⟨g3, 4, none⟩ = some (.slice (some adb) l1_4.length c1_4) ∧ w'.cell? (adb.add kk) = some (.int .i64 b)) (ds := [17]) #[false, false, false, false, false, false, false, false, false, false, false, false, false, false, false, false, false, false] (by kernel_rfl) rfl rfl ⟨(blk_cell S1.out.bo 4).trans rfl, (blk_cell S1.out.ba 4).trans rfl, XA.out _ S1.out.bel, (blk_cell S1.out.bb 4).trans rfl, XB.out _ S1.out.bel⟩ (fun hHeld => ?_)
      generalize wr.drew = w1 at S1 hHeld ⊢
      have hwr : IntKind.i64.wrap (a + b) = a + b := by rw [i64_w]; unfold wrap64; omega
      refine pure_ (i := 0) (N := some 31) (v := ?_) (a' := ?_) #[true, false, false, false, false, false, false, false, false, false, false, false, false, false, false, false, false, false] rfl rfl (by kernel_rfl) (fun _ _ _ h => h) (Or.inl ⟨by rfl, ?_⟩) ?_ ?_
      rotate_left
      · intro w'
        go_simp
        with_reducible rfl
      rotate_left
      · simp only [Act.put, List.setIfInBounds_toArray, List.set_cons_zero, List.set_cons_succ, i64_w, i32_w]
        rfl
      refine take_ (i := 1) (N := some 32) (v := ?_) (a' := ?_) #[true, true, false, false, false, false, false, false, false, false, false, false, false, false, false, false, false, false] rfl rfl (by kernel_rfl) (fun _ _ _ h => h) (Or.inl ⟨by rfl, ?_⟩) hHeld ?_ ?_
      rotate_left
      · rintro w' ⟨s0, s1, s2, s3, s4⟩
        go_simp
        with_reducible rfl
      rotate_left
      · simp only [Act.put, List.setIfInBounds_toArray, List.set_cons_zero, List.set_cons_succ, i64_w, i32_w]
        rfl
      refine pure_ (i := 2) (N := some 33) (v := ?_) (a' := ?_) #[true, true, true, false, false, false, false, false, false, false, false, false, false, false, false, false, false, false] rfl rfl (by kernel_rfl) (fun _ _ _ h => h) (Or.inl ⟨by rfl, ?_⟩) ?_ ?_
      rotate_left
      · intro w'
        go_simp
        with_reducible rfl
      rotate_left
      · simp only [Act.put, List.setIfInBounds_toArray, List.set_cons_zero, List.set_cons_succ, i64_w, i32_w]
        rfl
      refine pure_ (i := 3) (N := some 34) (v := ?_) (a' := ?_) #[true, true, true, true, false, false, false, false, false, false, false, false, false, false, false, false, false, false] rfl rfl (by kernel_rfl) (fun _ _ _ h => h) (Or.inl ⟨by rfl, ?_⟩) ?_ ?_
      rotate_left
      · intro w'
        go_simp
        with_reducible rfl
      rotate_left
      · simp only [Act.put, List.setIfInBounds_toArray, List.set_cons_zero, List.set_cons_succ, i64_w, i32_w]
        rfl
      refine pure_ (i := 4) (N := some 35) (v := ?_) (a' := ?_) #[true, true, true, true, true, false, false, false, false, false, false, false, false, false, false, false, false, false] rfl rfl (by kernel_rfl) (fun _ _ _ h => h) (Or.inl ⟨by rfl, ?_⟩) ?_ ?_
      rotate_left
      · intro w'
        go_simp
        with_reducible rfl
      rotate_left
      · simp only [Act.put, List.setIfInBounds_toArray, List.set_cons_zero, List.set_cons_succ, i64_w, i32_w]
        rfl
      refine take_ (i := 5) (N := some 36) (v := ?_) (a' := ?_) #[true, true, true, true, true, true, false, false, false, false, false, false, false, false, false, false, false, false] rfl rfl (by kernel_rfl) (fun _ _ _ h => h) (Or.inl ⟨by rfl, ?_⟩) hHeld ?_ ?_
      rotate_left
      · rintro w' ⟨s0, s1, s2, s3, s4⟩
        go_simp
        with_reducible rfl
      rotate_left
      · simp only [Act.put, List.setIfInBounds_toArray, List.set_cons_zero, List.set_cons_succ, i64_w, i32_w]
        rfl
      refine pure_ (i := 6) (N := some 37) (v := ?_) (a' := ?_) #[true, true, true, true, true, true, true, false, false, false, false, false, false, false, false, false, false, false] rfl rfl (by kernel_rfl) (fun _ _ _ h => h) (Or.inl ⟨by rfl, ?_⟩) ?_ ?_
      rotate_left
      · intro w'
        go_simp
        with_reducible rfl
      rotate_left
      · simp only [Act.put, List.setIfInBounds_toArray, List.set_cons_zero, List.set_cons_succ, i64_w, i32_w]
        rfl
      refine pure_ (i := 7) (N := some 38) (v := ?_) (a' := ?_) #[true, true, true, true, true, true, true, true, false, false, false, false, false, false, false, false, false, false] rfl rfl (by kernel_rfl) (fun _ _ _ h => h) (Or.inl ⟨by rfl, ?_⟩) ?_ ?_
      rotate_left
      · intro w'
        go_simp
        with_reducible rfl
      rotate_left
      · simp only [Act.put, List.setIfInBounds_toArray, List.set_cons_zero, List.set_cons_succ, i64_w, i32_w]
        rfl
      refine take_ (i := 8) (N := some 39) (v := ?_) (a' := ?_) #[true, true, true, true, true, true, true, true, true, false, false, false, false, false, false, false, false, false] rfl rfl (by kernel_rfl) (fun _ _ _ h => h) (Or.inl ⟨by rfl, ?_⟩) hHeld ?_ ?_
      rotate_left
      · rintro w' ⟨s0, s1, s2, s3, s4⟩
        go_simp
        with_reducible rfl
      rotate_left
      · simp only [Act.put, List.setIfInBounds_toArray, List.set_cons_zero, List.set_cons_succ, i64_w, i32_w]
        rfl
      refine pure_ (i := 9) (N := some 40) (v := ?_) (a' := ?_) #[true, true, true, true, true, true, true, true, true, true, false, false, false, false, false, false, false, false] rfl rfl (by kernel_rfl) (fun _ _ _ h => h) (Or.inl ⟨by rfl, ?_⟩) ?_ ?_
      rotate_left
      · intro w'
        go_simp
        with_reducible rfl
      rotate_left
      · simp only [Act.put, List.setIfInBounds_toArray, List.set_cons_zero, List.set_cons_succ, i64_w, i32_w]
        rfl
      refine take_ (i := 10) (N := some 41) (v := ?_) (a' := ?_) #[true, true, true, true, true, true, true, true, true, true, true, false, false, false, false, false, false, false] rfl rfl (by kernel_rfl) (fun _ _ _ h => h) (Or.inl ⟨by rfl, ?_⟩) hHeld ?_ ?_
      rotate_left
      · rintro w' ⟨s0, s1, s2, s3, s4⟩
        go_simp
        with_reducible rfl
      rotate_left
      · simp only [Act.put, List.setIfInBounds_toArray, List.set_cons_zero, List.set_cons_succ, i64_w, i32_w]
        rfl
      refine pure_ (i := 11) (N := some 42) (v := ?_) (a' := ?_) #[true, true, true, true, true, true, true, true, true, true, true, true, false, false, false, false, false, false] rfl rfl (by kernel_rfl) (fun _ _ _ h => h) (Or.inl ⟨by rfl, ?_⟩) ?_ ?_
      rotate_left
      · intro w'
        go_simp
        with_reducible rfl
      rotate_left
      · simp only [Act.put, List.setIfInBounds_toArray, List.set_cons_zero, List.set_cons_succ, i64_w, i32_w]
        rfl
      refine pure_ (i := 12) (N := some 43) (v := ?_) (a' := ?_) #[true, true, true, true, true, true, true, true, true, true, true, true, true, false, false, false, false, false] rfl rfl (by kernel_rfl) (fun _ _ _ h => h) (Or.inl ⟨by rfl, ?_⟩) ?_ ?_
      rotate_left
      · intro w'
        go_simp
        with_reducible rfl
      rotate_left
      · simp only [Act.put, List.setIfInBounds_toArray, List.set_cons_zero, List.set_cons_succ, i64_w, i32_w]
        rfl
      refine take_ (i := 13) (N := some 44) (v := ?_) (a' := ?_) #[true, true, true, true, true, true, true, true, true, true, true, true, true, true, false, false, false, false] rfl rfl (by kernel_rfl) (fun _ _ _ h => h) (Or.inl ⟨by rfl, ?_⟩) hHeld ?_ ?_
      rotate_left
      · rintro w' ⟨s0, s1, s2, s3, s4⟩
        go_simp
        with_reducible rfl
      rotate_left
      · simp only [Act.put, List.setIfInBounds_toArray, List.set_cons_zero, List.set_cons_succ, i64_w, i32_w]
        rfl
      refine pure_ (i := 14) (N := some 45) (v := ?_) (a' := ?_) #[true, true, true, true, true, true, true, true, true, true, true, true, true, true, true, false, false, false] rfl rfl (by kernel_rfl) (fun _ _ _ h => h) (Or.inl ⟨by rfl, ?_⟩) ?_ ?_
      rotate_left
      · intro w'
        go_simp
        with_reducible rfl
      rotate_left
      · simp only [Act.put, List.setIfInBounds_toArray, List.set_cons_zero, List.set_cons_succ, i64_w, i32_w]
        rfl
      clear hwr
      refine one_ (i := 15) (N := some 46) #[true, true, true, true, true, true, true, true, true, true, true, true, true, true, true, true, false, false] rfl rfl (by kernel_rfl) (by decide) (fun K hK => ?_)
      refine call_ 36 #[.int .i64 (a + b), .pointer (some ⟨g5, 0, none⟩)] (by rfl) rfl ?hrun ?_
      (case hrun => first | (go_simp; done) | (go_simp; rfl))
      (with_reducible refine (impl_joined.capd (a + b) F c' f' HCF.out (.int .i64 cc) (.int .i64 0) (.int .i64 0) (.int .i64 0) (.slice (some ⟨go, 0, none⟩) y0.length co) g5 _ S1.out.bo).mono ?_)
      rintro e w2 ⟨rfl, hcd⟩
      refine ⟨_, rfl, ?_⟩
      have S2 := Aside0.mk (impl_joined.St.on5 S1.out GS.out hcd.on hcd.blk)
      clear hcd S1
      obtain ⟨hx6, hf6⟩ := Kd.R_celln 0 S2.out.row (kk : Int) hk0 hltz
      rw [Int.toNat_natCast] at hx6 hf6
      refine hK.out _ _ ⟨(blk_cell S2.out.bo 4).trans rfl, (blk_cell S2.out.ba 4).trans rfl, XA.out _ S2.out.bel, (blk_cell S2.out.bb 4).trans rfl, XB.out _ S2.out.bel⟩ (fun hHeld => ?_)
      clear hK K
      refine norm_ (a' := ?_) ?_ ?_
      rotate_left
      · show Act.put _ (some 46) _ = _
        simp only [Act.put, List.setIfInBounds_toArray, List.set_cons_zero, List.set_cons_succ, i64_w, i32_w]
        rfl
      refine pure_ (i := 16) (N := some 47) (v := ?_) (a' := ?_) #[true, true, true, true, true, true, true, true, true, true, true, true, true, true, true, true, true, false] rfl rfl (by kernel_rfl) (fun _ _ _ h => h) (Or.inl ⟨by rfl, ?_⟩) ?_ ?_
      rotate_left
      · intro w'
        go_simp
        with_reducible rfl
      rotate_left
      · simp only [Act.put, List.setIfInBounds_toArray, List.set_cons_zero, List.set_cons_succ, i64_w, i32_w]
        rfl
      refine last_ (i := 17) (N := none) #[true, true, true, true, true, true, true, true, true, true, true, true, true, true, true, true, true, true] rfl rfl (by kernel_rfl) (by decide) (fun K hK => ?_)
      refine skip_ (w1 := ?_) (by rfl) rfl ?_ ?_
      rotate_left
      · go_simp
        rfl
      refine hK.out _ _ ?_
      clear hK K
      refine done_ (by kernel_rfl) ?_
      have S3 := Aside0.mk (impl_joined.St.row' S2.out MGO.out kk c')
      rw [impl_joined.set_next Hp c' kk HP2.out.1 hlt] at S3
      clear hHeld hx6 hf6 S2
      go_wp2
      go_roundg (8 - (kk + 1))
      case measure => omega
      case rel =>
        refine ⟨kk + 1, Hp ++ [c'], f', by omega, by omega, by go_num, ⟨by rw [List.length_append, HP2.out.1]; rfl, by have := HP2.out.2.1; simpa using this, HP2.out.2.2⟩, ⟨by repeat (first | exact S3.out | apply impl_joined.St.drewN | apply impl_joined.St.drew)⟩⟩
    · have : kk = 8 := by omega
      subst this
      have hP := HP.out
      have hly := LY.out
      rw [List.drop_eq_nil_of_le (Nat.le_of_eq N0.out), List.drop_eq_nil_of_le (Nat.le_of_eq N1.out)] at hP
      simp only [impl_joined.h, List.append_nil] at hP
      obtain ⟨_, rfl, rfl⟩ := hP
      have hltz : ¬ ((8 : Nat) : Int) < (y0.length : Int) := by omega
      have hltw : ¬ (8 : Int) < (y0.length : Int) := by omega
      have ST2 := Aside0.mk ((by have := ST.out; simpa using this) : impl_joined.St w wr g2 g3 g4 g5 #[.int .i64 a0_0, .int .i64 a0_1, .int .i64 a0_2, .int .i64 a0_3, .slice A0_4 l0_4.length c0_4, .bool true] #[.int .i64 a1_0, .int .i64 a1_1, .int .i64 a1_2, .int .i64 a1_3, .slice A1_4 l1_4.length c1_4, .bool a1_5] (.int .i64 cc) (.int .i64 0) (.int .i64 0) (.int .i64 0) (.slice (some ⟨go, 0, none⟩) y0.length co) Hp F)
      clear HP ST hly hlt hg hkk
      by_cases ha : a0_0 = 0
      · have HM := Aside0.mk (HM.out.trans (if_pos ha))
        have HX := Aside0.mk (HX.out.trans (if_pos ha))
        have hta : (a0_0 == 0) = true := by simp [ha]
        clear ha
        have hm0 : wr.cell? ⟨g2, 0, none⟩ = some (.int .i64 a0_0) := (blk_cell ST2.out.ba 0).trans rfl
        have hm1 : wr.cell? ⟨g3, 0, none⟩ = some (.int .i64 a1_0) := (blk_cell ST2.out.bb 0).trans rfl
        go_wp2
        clear hm0 hm1
        have S1 := Aside0.mk (impl_joined.St.drew ST2.out)
        obtain rfl : a1_2 = M := HM.out.symm
        obtain rfl : a1_3 = X := HX.out.symm
        refine start_ (n := 8) (S := fun w' => w'.cell? ⟨g3, 2, none⟩ = some (.int .i64 a1_2) ∧ w'.cell? ⟨g3, 3, none⟩ = some (.int .i64 a1_3)) (ds := [7]) #[false, false, false, false, false, false, false, false] (by kernel_rfl) rfl rfl ⟨(blk_cell S1.out.bb 2).trans rfl, (blk_cell S1.out.bb 3).trans rfl⟩ (fun hHeld => ?_)
        generalize wr.drew = w1 at S1 hHeld ⊢
        refine pure_ (i := 0) (N := some 65) (v := ?_) (a' := ?_) #[true, false, false, false, false, false, false, false] rfl rfl (by kernel_rfl) (fun _ _ _ h => h) (Or.inl ⟨by rfl, ?_⟩) ?_ ?_
        rotate_left
        · intro w'
          go_simp
          with_reducible rfl
        rotate_left
        · simp only [Act.put, List.setIfInBounds_toArray, List.set_cons_zero, List.set_cons_succ, i64_w, i32_w]
          rfl
        refine take_ (i := 1) (N := some 66) (v := ?_) (a' := ?_) #[true, true, false, false, false, false, false, false] rfl rfl (by kernel_rfl) (fun _ _ _ h => h) (Or.inl ⟨by rfl, ?_⟩) hHeld ?_ ?_
        rotate_left
        · rintro w' ⟨s0, s1⟩
          go_simp
          with_reducible rfl
        rotate_left
        · simp only [Act.put, List.setIfInBounds_toArray, List.set_cons_zero, List.set_cons_succ, i64_w, i32_w]
          rfl
        refine pure_ (i := 2) (N := some 67) (v := ?_) (a' := ?_) #[true, true, true, false, false, false, false, false] rfl rfl (by kernel_rfl) (fun _ _ _ h => h) (Or.inl ⟨by rfl, ?_⟩) ?_ ?_
        rotate_left
        · intro w'
          go_simp
          with_reducible rfl
        rotate_left
        · simp only [Act.put, List.setIfInBounds_toArray, List.set_cons_zero, List.set_cons_succ, i64_w, i32_w]
          rfl
        refine take_ (i := 3) (N := some 68) (v := ?_) (a' := ?_) #[true, true, true, true, false, false, false, false] rfl rfl (by kernel_rfl) (fun _ _ _ h => h) (Or.inl ⟨by rfl, ?_⟩) hHeld ?_ ?_
        rotate_left
        · rintro w' ⟨s0, s1⟩
          go_simp
          with_reducible rfl
        rotate_left
        · simp only [Act.put, List.setIfInBounds_toArray, List.set_cons_zero, List.set_cons_succ, i64_w, i32_w]
          rfl
        refine pure_ (i := 4) (N := some 69) (v := ?_) (a' := ?_) #[true, true, true, true, true, false, false, false] rfl rfl (by kernel_rfl) (fun _ _ _ h => h) (Or.inl ⟨by rfl, ?_⟩) ?_ ?_
        rotate_left
        · intro w'
          go_simp
          with_reducible rfl
        rotate_left
        · simp only [Act.put, List.setIfInBounds_toArray, List.set_cons_zero, List.set_cons_succ, i64_w, i32_w]
          rfl
        have hx2 : w1.cell? ⟨g5, 2, none⟩ = some (.int .i64 0) := (blk_cell S1.out.bo 2).trans rfl
        have hf2 := blk_frozen S1.out.bo 2
        refine one_ (i := 5) (N := none) #[true, true, true, true, true, true, false, false] rfl rfl (by kernel_rfl) (by decide) (fun K hK => ?_)
        refine skip_ (w1 := w1.setCell ⟨g5, 2, none⟩ (.int .i64 a1_2)) (by rfl) rfl ?_ ?_
        · first | (go_simp; done) | (go_simp; rfl)
        have S2 := Aside0.mk (impl_joined.St.on5 S1.out GS.out ((On.refl g5 w1).set 2 (.int .i64 a1_2)) (blk_put S1.out.bo 2 (.int .i64 a1_2) rfl) : impl_joined.St w (w1.setCell ⟨g5, 2, none⟩ (.int .i64 a1_2)) g2 g3 g4 g5 #[.int .i64 a0_0, .int .i64 a0_1, .int .i64 a0_2, .int .i64 a0_3, .slice A0_4 l0_4.length c0_4, .bool true] #[.int .i64 a1_0, .int .i64 a1_1, .int .i64 a1_2, .int .i64 a1_3, .slice A1_4 l1_4.length c1_4, .bool a1_5] (.int .i64 cc) (.int .i64 0) (.int .i64 a1_2) (.int .i64 0) (.slice (some ⟨go, 0, none⟩) y0.length co) Hp F)
        generalize w1.setCell ⟨g5, 2, none⟩ (.int .i64 a1_2) = w2 at S2 ⊢
        refine hK.out _ _ ⟨(blk_cell S2.out.bb 2).trans rfl, (blk_cell S2.out.bb 3).trans rfl⟩ (fun hHeld => ?_)
        clear hK K hx2 hf2 S1
        refine pure_ (i := 6) (N := some 70) (v := ?_) (a' := ?_) #[true, true, true, true, true, true, true, false] rfl rfl (by kernel_rfl) (fun _ _ _ h => h) (Or.inl ⟨by rfl, ?_⟩) ?_ ?_
        rotate_left
        · intro w'
          go_simp
          with_reducible rfl
        rotate_left
        · simp only [Act.put, List.setIfInBounds_toArray, List.set_cons_zero, List.set_cons_succ, i64_w, i32_w]
          rfl
        have hx3 : w2.cell? ⟨g5, 3, none⟩ = some (.int .i64 0) := (blk_cell S2.out.bo 3).trans rfl
        have hf3 := blk_frozen S2.out.bo 3
        refine last_ (i := 7) (N := none) #[true, true, true, true, true, true, true, true] rfl rfl (by kernel_rfl) (by decide) (fun K hK => ?_)
        refine skip_ (w1 := ?_) (by rfl) rfl ?_ ?_
        rotate_left
        · go_simp
          rfl
        refine hK.out _ _ ?_
        clear hK K
        refine done_ (by kernel_rfl) ?_
        have S3 := Aside0.mk (impl_joined.St.on5 S2.out GS.out ((On.refl g5 w2).set 3 (.int .i64 a1_3)) (blk_put S2.out.bo 3 (.int .i64 a1_3) rfl) : impl_joined.St w (w2.setCell ⟨g5, 3, none⟩ (.int .i64 a1_3)) g2 g3 g4 g5 #[.int .i64 a0_0, .int .i64 a0_1, .int .i64 a0_2, .int .i64 a0_3, .slice A0_4 l0_4.length c0_4, .bool true] #[.int .i64 a1_0, .int .i64 a1_1, .int .i64 a1_2, .int .i64 a1_3, .slice A1_4 l1_4.length c1_4, .bool a1_5] (.int .i64 cc) (.int .i64 0) (.int .i64 a1_2) (.int .i64 a1_3) (.slice (some ⟨go, 0, none⟩) y0.length co) Hp F)
        generalize w2.setCell ⟨g5, 3, none⟩ (.int .i64 a1_3) = w3 at S3 ⊢
        clear hHeld hx3 hf3 S2
        cases F with
        | true =>
          obtain rfl : S = 0 := HS.out
          have hq0 : w3.cell? ⟨g5, 0, none⟩ = some (.int .i64 cc) := (blk_cell S3.out.bo 0).trans rfl
          have hq1 : w3.cell? ⟨g5, 1, none⟩ = some (.int .i64 0) := (blk_cell S3.out.bo 1).trans rfl
          have hq2 : w3.cell? ⟨g5, 2, none⟩ = some (.int .i64 a1_2) := (blk_cell S3.out.bo 2).trans rfl
          have hq3 : w3.cell? ⟨g5, 3, none⟩ = some (.int .i64 a1_3) := (blk_cell S3.out.bo 3).trans rfl
          have hq4 : w3.cell? ⟨g5, 4, none⟩ = some (.slice (some ⟨go, 0, none⟩) y0.length co) := (blk_cell S3.out.bo 4).trans rfl
          have hq5 : w3.cell? ⟨g5, 5, none⟩ = some (.bool true) := (blk_cell S3.out.bo 5).trans rfl
          have hz0 : w3.cell? ⟨g4, 0, none⟩ = some (.int .i64 0) := (blk_cell S3.out.bz 0).trans rfl
          have hz1 : w3.cell? ⟨g4, 1, none⟩ = some (.int .i64 0) := (blk_cell S3.out.bz 1).trans rfl
          have hz2 : w3.cell? ⟨g4, 2, none⟩ = some (.int .i64 0) := (blk_cell S3.out.bz 2).trans rfl
          have hz3 : w3.cell? ⟨g4, 3, none⟩ = some (.int .i64 0) := (blk_cell S3.out.bz 3).trans rfl
          have hz4 : w3.cell? ⟨g4, 4, none⟩ = some (.slice none 0 0) := (blk_cell S3.out.bz 4).trans rfl
          have hz5 : w3.cell? ⟨g4, 5, none⟩ = some (.bool false) := (blk_cell S3.out.bz 5).trans rfl
          have hf0 := blk_frozen S3.out.bz 0
          have hf1 := blk_frozen S3.out.bz 1
          have hf2 := blk_frozen S3.out.bz 2
          have hf3 := blk_frozen S3.out.bz 3
          have hf4 := blk_frozen S3.out.bz 4
          have hf5 := blk_frozen S3.out.bz 5
          go_wp2_with ((with_reducible refine gate_store (t := 26) (p := 4) rfl ?_); refine store_event (t := 26) (p := 4) (v := ?vo_9020) (w1 := setAll w3 g4 0 [.int .i64 cc, .int .i64 0, .int .i64 a1_2, .int .i64 a1_3, .slice (some ⟨go, 0, none⟩) y0.length co, .bool true]) ?hg ?ho ?hn ?hr ?_; (case ho => rfl); (case hg => rfl); (case hn => rfl); (case hr => first | (go_simp; done) | (go_simp; rfl)); intro w9 hw; have ON9 := Aside0.mk ((by rw [hw]; exact setAll_on _ _ _ _) : On g4 w3 w9); have BZ9 := Aside0.mk ((by rw [hw]; exact setAll_blk _ S3.out.bz rfl) : w9.heap[g4]? = some (.cells #[.int .i64 cc, .int .i64 0, .int .i64 a1_2, .int .i64 a1_3, .slice (some ⟨go, 0, none⟩) y0.length co, .bool true] 26 (0, 0))); clear hw)
          refine bodyPost_ret (results_cell_row rfl _ _ g4 26 #[.int .i64 cc, .int .i64 0, .int .i64 a1_2, .int .i64 a1_3, .slice (some ⟨go, 0, none⟩) y0.length co, .bool true] (0, 0) _ rfl (by (with_reducible repeat (first | refine blk_drewN ?_ _ | refine blk_drew ?_)); exact BZ9.out) Try.underlying26 rfl (by kernel_rfl)) rfl ?_
          exact ⟨_, rfl, by (with_reducible repeat (first | apply Kd.R_alloc | apply Kd.R_drewN | apply Kd.R_drew)); exact ON9.out.Rt S3.out.row S3.out.bz (by decide), by repeat (first | exact ON9.out.below S3.out.bel GS.out.m4 | apply below_alloc | apply pw_below_drewN | apply below_drew1)⟩
        | false =>
          obtain rfl : S = a0_1 + a1_1 := HS.out
          have hq5 : w3.cell? ⟨g5, 5, none⟩ = some (.bool false) := (blk_cell S3.out.bo 5).trans rfl
          have hs0 : w3.cell? ⟨g2, 1, none⟩ = some (.int .i64 a0_1) := (blk_cell S3.out.ba 1).trans rfl
          have hs1 : w3.cell? ⟨g3, 1, none⟩ = some (.int .i64 a1_1) := (blk_cell S3.out.bb 1).trans rfl
          have hs2 : w3.cell? ⟨g5, 1, none⟩ = some (.int .i64 0) := (blk_cell S3.out.bo 1).trans rfl
          have hs3 := blk_frozen S3.out.bo 1
          go_wp2_with (first | ((with_reducible refine gate_store (t := 3) (p := 89) rfl ?_); refine store_event (t := 3) (p := 89) (v := ?vo_9021) (w1 := w3.setCell ⟨g5, 1, none⟩ (.int .i64 (a0_1 + a1_1))) ?hg ?ho ?hn ?hr ?_; (case ho => rfl); (case hg => rfl); (case hn => rfl); (case hr => first | (go_simp; done) | (go_simp; rfl)); intro w4 hw; have S4 := Aside0.mk ((by rw [hw]; exact S3.out.on5 GS.out ((On.refl _ _).set 1 _) (blk_put S3.out.bo 1 _ rfl)) : impl_joined.St w w4 g2 g3 g4 g5 #[.int .i64 a0_0, .int .i64 a0_1, .int .i64 a0_2, .int .i64 a0_3, .slice A0_4 l0_4.length c0_4, .bool true] #[.int .i64 a1_0, .int .i64 a1_1, .int .i64 a1_2, .int .i64 a1_3, .slice A1_4 l1_4.length c1_4, .bool a1_5] (.int .i64 cc) (.int .i64 (a0_1 + a1_1)) (.int .i64 a1_2) (.int .i64 a1_3) (.slice (some ⟨go, 0, none⟩) y0.length co) Hp false); clear hw hq5 hs0 hs1 hs2 hs3; have hq0 : w4.cell? ⟨g5, 0, none⟩ = some (.int .i64 cc) := (blk_cell S4.out.bo 0).trans rfl; have hq1 : w4.cell? ⟨g5, 1, none⟩ = some (.int .i64 (a0_1 + a1_1)) := (blk_cell S4.out.bo 1).trans rfl; have hq2 : w4.cell? ⟨g5, 2, none⟩ = some (.int .i64 a1_2) := (blk_cell S4.out.bo 2).trans rfl; have hq3 : w4.cell? ⟨g5, 3, none⟩ = some (.int .i64 a1_3) := (blk_cell S4.out.bo 3).trans rfl; have hq4 : w4.cell? ⟨g5, 4, none⟩ = some (.slice (some ⟨go, 0, none⟩) y0.length co) := (blk_cell S4.out.bo 4).trans rfl; have hq5 : w4.cell? ⟨g5, 5, none⟩ = some (.bool false) := (blk_cell S4.out.bo 5).trans rfl; have hz0 : w4.cell? ⟨g4, 0, none⟩ = some (.int .i64 0) := (blk_cell S4.out.bz 0).trans rfl; have hz1 : w4.cell? ⟨g4, 1, none⟩ = some (.int .i64 0) := (blk_cell S4.out.bz 1).trans rfl; have hz2 : w4.cell? ⟨g4, 2, none⟩ = some (.int .i64 0) := (blk_cell S4.out.bz 2).trans rfl; have hz3 : w4.cell? ⟨g4, 3, none⟩ = some (.int .i64 0) := (blk_cell S4.out.bz 3).trans rfl; have hz4 : w4.cell? ⟨g4, 4, none⟩ = some (.slice none 0 0) := (blk_cell S4.out.bz 4).trans rfl; have hz5 : w4.cell? ⟨g4, 5, none⟩ = some (.bool false) := (blk_cell S4.out.bz 5).trans rfl; have hf0 := blk_frozen S4.out.bz 0; have hf1 := blk_frozen S4.out.bz 1; have hf2 := blk_frozen S4.out.bz 2; have hf3 := blk_frozen S4.out.bz 3; have hf4 := blk_frozen S4.out.bz 4; have hf5 := blk_frozen S4.out.bz 5) | ((with_reducible refine gate_store (t := 26) (p := 4) rfl ?_); refine store_event (t := 26) (p := 4) (v := ?vo_9022) (w1 := setAll w4 g4 0 [.int .i64 cc, .int .i64 (a0_1 + a1_1), .int .i64 a1_2, .int .i64 a1_3, .slice (some ⟨go, 0, none⟩) y0.length co, .bool false]) ?hg ?ho ?hn ?hr ?_; (case ho => rfl); (case hg => rfl); (case hn => rfl); (case hr => first | (go_simp; done) | (go_simp; rfl)); intro w9 hw; have ON9 := Aside0.mk ((by rw [hw]; exact setAll_on _ _ _ _) : On g4 w4 w9); have BZ9 := Aside0.mk ((by rw [hw]; exact setAll_blk _ S4.out.bz rfl) : w9.heap[g4]? = some (.cells #[.int .i64 cc, .int .i64 (a0_1 + a1_1), .int .i64 a1_2, .int .i64 a1_3, .slice (some ⟨go, 0, none⟩) y0.length co, .bool false] 26 (0, 0))); clear hw))
          refine bodyPost_ret (results_cell_row rfl _ _ g4 26 #[.int .i64 cc, .int .i64 (a0_1 + a1_1), .int .i64 a1_2, .int .i64 a1_3, .slice (some ⟨go, 0, none⟩) y0.length co, .bool false] (0, 0) _ rfl (by (with_reducible repeat (first | refine blk_drewN ?_ _ | refine blk_drew ?_)); exact BZ9.out) Try.underlying26 rfl (by kernel_rfl)) rfl ?_
          exact ⟨_, rfl, by (with_reducible repeat (first | apply Kd.R_alloc | apply Kd.R_drewN | apply Kd.R_drew)); exact ON9.out.Rt S4.out.row S4.out.bz (by decide), by repeat (first | exact ON9.out.below S4.out.bel GS.out.m4 | apply below_alloc | apply pw_below_drewN | apply below_drew1)⟩
      · have HM := Aside0.mk (HM.out.trans (if_neg ha))
        have HX := Aside0.mk (HX.out.trans (if_neg ha))
        have hta : (a0_0 == 0) = false := by simp [ha]
        clear ha
        by_cases hb : a1_0 = 0
        · have HM := Aside0.mk (HM.out.trans (if_pos hb))
          have HX := Aside0.mk (HX.out.trans (if_pos hb))
          have htb : (a1_0 == 0) = true := by simp [hb]
          clear hb
          have hm0 : wr.cell? ⟨g2, 0, none⟩ = some (.int .i64 a0_0) := (blk_cell ST2.out.ba 0).trans rfl
          have hm1 : wr.cell? ⟨g3, 0, none⟩ = some (.int .i64 a1_0) := (blk_cell ST2.out.bb 0).trans rfl
          go_wp2
          clear hm0 hm1
          have S1 := Aside0.mk (impl_joined.St.drew ST2.out)
          obtain rfl : a0_2 = M := HM.out.symm
          obtain rfl : a0_3 = X := HX.out.symm
          refine start_ (n := 8) (S := fun w' => w'.cell? ⟨g2, 2, none⟩ = some (.int .i64 a0_2) ∧ w'.cell? ⟨g2, 3, none⟩ = some (.int .i64 a0_3)) (ds := [7]) #[false, false, false, false, false, false, false, false] (by kernel_rfl) rfl rfl ⟨(blk_cell S1.out.ba 2).trans rfl, (blk_cell S1.out.ba 3).trans rfl⟩ (fun hHeld => ?_)
          generalize wr.drew = w1 at S1 hHeld ⊢
          refine pure_ (i := 0) (N := some 75) (v := ?_) (a' := ?_) #[true, false, false, false, false, false, false, false] rfl rfl (by kernel_rfl) (fun _ _ _ h => h) (Or.inl ⟨by rfl, ?_⟩) ?_ ?_
          rotate_left
          · intro w'
            go_simp
            with_reducible rfl
          rotate_left
          · simp only [Act.put, List.setIfInBounds_toArray, List.set_cons_zero, List.set_cons_succ, i64_w, i32_w]
            rfl
          refine take_ (i := 1) (N := some 76) (v := ?_) (a' := ?_) #[true, true, false, false, false, false, false, false] rfl rfl (by kernel_rfl) (fun _ _ _ h => h) (Or.inl ⟨by rfl, ?_⟩) hHeld ?_ ?_
          rotate_left
          · rintro w' ⟨s0, s1⟩
            go_simp
            with_reducible rfl
          rotate_left
          · simp only [Act.put, List.setIfInBounds_toArray, List.set_cons_zero, List.set_cons_succ, i64_w, i32_w]
            rfl
          refine pure_ (i := 2) (N := some 77) (v := ?_) (a' := ?_) #[true, true, true, false, false, false, false, false] rfl rfl (by kernel_rfl) (fun _ _ _ h => h) (Or.inl ⟨by rfl, ?_⟩) ?_ ?_
          rotate_left
          · intro w'
            go_simp
            with_reducible rfl
          rotate_left
          · simp only [Act.put, List.setIfInBounds_toArray, List.set_cons_zero, List.set_cons_succ, i64_w, i32_w]
            rfl
          refine take_ (i := 3) (N := some 78) (v := ?_) (a' := ?_) #[true, true, true, true, false, false, false, false] rfl rfl (by kernel_rfl) (fun _ _ _ h => h) (Or.inl ⟨by rfl, ?_⟩) hHeld ?_ ?_
          rotate_left
          · rintro w' ⟨s0, s1⟩
            go_simp
            with_reducible rfl
          rotate_left
          · simp only [Act.put, List.setIfInBounds_toArray, List.set_cons_zero, List.set_cons_succ, i64_w, i32_w]
            rfl
          refine pure_ (i := 4) (N := some 79) (v := ?_) (a' := ?_) #[true, true, true, true, true, false, false, false] rfl rfl (by kernel_rfl) (fun _ _ _ h => h) (Or.inl ⟨by rfl, ?_⟩) ?_ ?_
          rotate_left
          · intro w'
            go_simp
            with_reducible rfl
          rotate_left
          · simp only [Act.put, List.setIfInBounds_toArray, List.set_cons_zero, List.set_cons_succ, i64_w, i32_w]
            rfl
          have hx2 : w1.cell? ⟨g5, 2, none⟩ = some (.int .i64 0) := (blk_cell S1.out.bo 2).trans rfl
          have hf2 := blk_frozen S1.out.bo 2
          refine one_ (i := 5) (N := none) #[true, true, true, true, true, true, false, false] rfl rfl (by kernel_rfl) (by decide) (fun K hK => ?_)
          refine skip_ (w1 := w1.setCell ⟨g5, 2, none⟩ (.int .i64 a0_2)) (by rfl) rfl ?_ ?_
          · first | (go_simp; done) | (go_simp; rfl)
          have S2 := Aside0.mk (impl_joined.St.on5 S1.out GS.out ((On.refl g5 w1).set 2 (.int .i64 a0_2)) (blk_put S1.out.bo 2 (.int .i64 a0_2) rfl) : impl_joined.St w (w1.setCell ⟨g5, 2, none⟩ (.int .i64 a0_2)) g2 g3 g4 g5 #[.int .i64 a0_0, .int .i64 a0_1, .int .i64 a0_2, .int .i64 a0_3, .slice A0_4 l0_4.length c0_4, .bool true] #[.int .i64 a1_0, .int .i64 a1_1, .int .i64 a1_2, .int .i64 a1_3, .slice A1_4 l1_4.length c1_4, .bool a1_5] (.int .i64 cc) (.int .i64 0) (.int .i64 a0_2) (.int .i64 0) (.slice (some ⟨go, 0, none⟩) y0.length co) Hp F)
          generalize w1.setCell ⟨g5, 2, none⟩ (.int .i64 a0_2) = w2 at S2 ⊢
          refine hK.out _ _ ⟨(blk_cell S2.out.ba 2).trans rfl, (blk_cell S2.out.ba 3).trans rfl⟩ (fun hHeld => ?_)
          clear hK K hx2 hf2 S1
          refine pure_ (i := 6) (N := some 80) (v := ?_) (a' := ?_) #[true, true, true, true, true, true, true, false] rfl rfl (by kernel_rfl) (fun _ _ _ h => h) (Or.inl ⟨by rfl, ?_⟩) ?_ ?_
          rotate_left
          · intro w'
            go_simp
            with_reducible rfl
          rotate_left
          · simp only [Act.put, List.setIfInBounds_toArray, List.set_cons_zero, List.set_cons_succ, i64_w, i32_w]
            rfl
          have hx3 : w2.cell? ⟨g5, 3, none⟩ = some (.int .i64 0) := (blk_cell S2.out.bo 3).trans rfl
          have hf3 := blk_frozen S2.out.bo 3
          refine last_ (i := 7) (N := none) #[true, true, true, true, true, true, true, true] rfl rfl (by kernel_rfl) (by decide) (fun K hK => ?_)
          refine skip_ (w1 := ?_) (by rfl) rfl ?_ ?_
          rotate_left
          · go_simp
            rfl
          refine hK.out _ _ ?_
          clear hK K
          refine done_ (by kernel_rfl) ?_
          have S3 := Aside0.mk (impl_joined.St.on5 S2.out GS.out ((On.refl g5 w2).set 3 (.int .i64 a0_3)) (blk_put S2.out.bo 3 (.int .i64 a0_3) rfl) : impl_joined.St w (w2.setCell ⟨g5, 3, none⟩ (.int .i64 a0_3)) g2 g3 g4 g5 #[.int .i64 a0_0, .int .i64 a0_1, .int .i64 a0_2, .int .i64 a0_3, .slice A0_4 l0_4.length c0_4, .bool true] #[.int .i64 a1_0, .int .i64 a1_1, .int .i64 a1_2, .int .i64 a1_3, .slice A1_4 l1_4.length c1_4, .bool a1_5] (.int .i64 cc) (.int .i64 0) (.int .i64 a0_2) (.int .i64 a0_3) (.slice (some ⟨go, 0, none⟩) y0.length co) Hp F)
          generalize w2.setCell ⟨g5, 3, none⟩ (.int .i64 a0_3) = w3 at S3 ⊢
          clear hHeld hx3 hf3 S2
          cases F with
          | true =>
            obtain rfl : S = 0 := HS.out
            have hq0 : w3.cell? ⟨g5, 0, none⟩ = some (.int .i64 cc) := (blk_cell S3.out.bo 0).trans rfl
            have hq1 : w3.cell? ⟨g5, 1, none⟩ = some (.int .i64 0) := (blk_cell S3.out.bo 1).trans rfl
            have hq2 : w3.cell? ⟨g5, 2, none⟩ = some (.int .i64 a0_2) := (blk_cell S3.out.bo 2).trans rfl
            have hq3 : w3.cell? ⟨g5, 3, none⟩ = some (.int .i64 a0_3) := (blk_cell S3.out.bo 3).trans rfl
            have hq4 : w3.cell? ⟨g5, 4, none⟩ = some (.slice (some ⟨go, 0, none⟩) y0.length co) := (blk_cell S3.out.bo 4).trans rfl
            have hq5 : w3.cell? ⟨g5, 5, none⟩ = some (.bool true) := (blk_cell S3.out.bo 5).trans rfl
            have hz0 : w3.cell? ⟨g4, 0, none⟩ = some (.int .i64 0) := (blk_cell S3.out.bz 0).trans rfl
            have hz1 : w3.cell? ⟨g4, 1, none⟩ = some (.int .i64 0) := (blk_cell S3.out.bz 1).trans rfl
            have hz2 : w3.cell? ⟨g4, 2, none⟩ = some (.int .i64 0) := (blk_cell S3.out.bz 2).trans rfl
            have hz3 : w3.cell? ⟨g4, 3, none⟩ = some (.int .i64 0) := (blk_cell S3.out.bz 3).trans rfl
            have hz4 : w3.cell? ⟨g4, 4, none⟩ = some (.slice none 0 0) := (blk_cell S3.out.bz 4).trans rfl
            have hz5 : w3.cell? ⟨g4, 5, none⟩ = some (.bool false) := (blk_cell S3.out.bz 5).trans rfl
            have hf0 := blk_frozen S3.out.bz 0
            have hf1 := blk_frozen S3.out.bz 1
            have hf2 := blk_frozen S3.out.bz 2
            have hf3 := blk_frozen S3.out.bz 3
            have hf4 := blk_frozen S3.out.bz 4
            have hf5 := blk_frozen S3.out.bz 5
            go_wp2_with ((with_reducible refine gate_store (t := 26) (p := 4) rfl ?_); refine store_event (t := 26) (p := 4) (v := ?vo_9023) (w1 := setAll w3 g4 0 [.int .i64 cc, .int .i64 0, .int .i64 a0_2, .int .i64 a0_3, .slice (some ⟨go, 0, none⟩) y0.length co, .bool true]) ?hg ?ho ?hn ?hr ?_; (case ho => rfl); (case hg => rfl); (case hn => rfl); (case hr => first | (go_simp; done) | (go_simp; rfl)); intro w9 hw; have ON9 := Aside0.mk ((by rw [hw]; exact setAll_on _ _ _ _) : On g4 w3 w9); have BZ9 := Aside0.mk ((by rw [hw]; exact setAll_blk _ S3.out.bz rfl) : w9.heap[g4]? = some (.cells #[.int .i64 cc, .int .i64 0, .int .i64 a0_2, .int .i64 a0_3, .slice (some ⟨go, 0, none⟩) y0.length co, .bool true] 26 (0, 0))); clear hw)
            refine bodyPost_ret (results_cell_row rfl _ _ g4 26 #[.int .i64 cc, .int .i64 0, .int .i64 a0_2, .int .i64 a0_3, .slice (some ⟨go, 0, none⟩) y0.length co, .bool true] (0, 0) _ rfl (by (with_reducible repeat (first | refine blk_drewN ?_ _ | refine blk_drew ?_)); exact BZ9.out) Try.underlying26 rfl (by kernel_rfl)) rfl ?_
            exact ⟨_, rfl, by (with_reducible repeat (first | apply Kd.R_alloc | apply Kd.R_drewN | apply Kd.R_drew)); exact ON9.out.Rt S3.out.row S3.out.bz (by decide), by repeat (first | exact ON9.out.below S3.out.bel GS.out.m4 | apply below_alloc | apply pw_below_drewN | apply below_drew1)⟩
          | false =>
            obtain rfl : S = a0_1 + a1_1 := HS.out
            have hq5 : w3.cell? ⟨g5, 5, none⟩ = some (.bool false) := (blk_cell S3.out.bo 5).trans rfl
            have hs0 : w3.cell? ⟨g2, 1, none⟩ = some (.int .i64 a0_1) := (blk_cell S3.out.ba 1).trans rfl
            have hs1 : w3.cell? ⟨g3, 1, none⟩ = some (.int .i64 a1_1) := (blk_cell S3.out.bb 1).trans rfl
            have hs2 : w3.cell? ⟨g5, 1, none⟩ = some (.int .i64 0) := (blk_cell S3.out.bo 1).trans rfl
            have hs3 := blk_frozen S3.out.bo 1
            go_wp2_with (first | ((with_reducible refine gate_store (t := 3) (p := 89) rfl ?_); refine store_event (t := 3) (p := 89) (v := ?vo_9024) (w1 := w3.setCell ⟨g5, 1, none⟩ (.int .i64 (a0_1 + a1_1))) ?hg ?ho ?hn ?hr ?_; (case ho => rfl); (case hg => rfl); (case hn => rfl); (case hr => first | (go_simp; done) | (go_simp; rfl)); intro w4 hw; have S4 := Aside0.mk ((by rw [hw]; exact S3.out.on5 GS.out ((On.refl _ _).set 1 _) (blk_put S3.out.bo 1 _ rfl)) : impl_joined.St w w4 g2 g3 g4 g5 #[.int .i64 a0_0, .int .i64 a0_1, .int .i64 a0_2, .int .i64 a0_3, .slice A0_4 l0_4.length c0_4, .bool true] #[.int .i64 a1_0, .int .i64 a1_1, .int .i64 a1_2, .int .i64 a1_3, .slice A1_4 l1_4.length c1_4, .bool a1_5] (.int .i64 cc) (.int .i64 (a0_1 + a1_1)) (.int .i64 a0_2) (.int .i64 a0_3) (.slice (some ⟨go, 0, none⟩) y0.length co) Hp false); clear hw hq5 hs0 hs1 hs2 hs3; have hq0 : w4.cell? ⟨g5, 0, none⟩ = some (.int .i64 cc) := (blk_cell S4.out.bo 0).trans rfl; have hq1 : w4.cell? ⟨g5, 1, none⟩ = some (.int .i64 (a0_1 + a1_1)) := (blk_cell S4.out.bo 1).trans rfl; have hq2 : w4.cell? ⟨g5, 2, none⟩ = some (.int .i64 a0_2) := (blk_cell S4.out.bo 2).trans rfl; have hq3 : w4.cell? ⟨g5, 3, none⟩ = some (.int .i64 a0_3) := (blk_cell S4.out.bo 3).trans rfl; have hq4 : w4.cell? ⟨g5, 4, none⟩ = some (.slice (some ⟨go, 0, none⟩) y0.length co) := (blk_cell S4.out.bo 4).trans rfl; have hq5 : w4.cell? ⟨g5, 5, none⟩ = some (.bool false) := (blk_cell S4.out.bo 5).trans rfl; have hz0 : w4.cell? ⟨g4, 0, none⟩ = some (.int .i64 0) := (blk_cell S4.out.bz 0).trans rfl; have hz1 : w4.cell? ⟨g4, 1, none⟩ = some (.int .i64 0) := (blk_cell S4.out.bz 1).trans rfl; have hz2 : w4.cell? ⟨g4, 2, none⟩ = some (.int .i64 0) := (blk_cell S4.out.bz 2).trans rfl; have hz3 : w4.cell? ⟨g4, 3, none⟩ = some (.int .i64 0) := (blk_cell S4.out.bz 3).trans rfl; have hz4 : w4.cell? ⟨g4, 4, none⟩ = some (.slice none 0 0) := (blk_cell S4.out.bz 4).trans rfl; have hz5 : w4.cell? ⟨g4, 5, none⟩ = some (.bool false) := (blk_cell S4.out.bz 5).trans rfl; have hf0 := blk_frozen S4.out.bz 0; have hf1 := blk_frozen S4.out.bz 1; have hf2 := blk_frozen S4.out.bz 2; have hf3 := blk_frozen S4.out.bz 3; have hf4 := blk_frozen S4.out.bz 4; have hf5 := blk_frozen S4.out.bz 5) | ((with_reducible refine gate_store (t := 26) (p := 4) rfl ?_); refine store_event (t := 26) (p := 4) (v := ?vo_9025) (w1 := setAll w4 g4 0 [.int .i64 cc, .int .i64 (a0_1 + a1_1), .int .i64 a0_2, .int .i64 a0_3, .slice (some ⟨go, 0, none⟩) y0.length co, .bool false]) ?hg ?ho ?hn ?hr ?_; (case ho => rfl); (case hg => rfl); (case hn => rfl); (case hr => first | (go_simp; done) | (go_simp; rfl)); intro w9 hw; have ON9 := Aside0.mk ((by rw [hw]; exact setAll_on _ _ _ _) : On g4 w4 w9); have BZ9 := Aside0.mk ((by rw [hw]; exact setAll_blk _ S4.out.bz rfl) : w9.heap[g4]? = some (.cells #[.int .i64 cc, .int .i64 (a0_1 + a1_1), .int .i64 a0_2, .int .i64 a0_3, .slice (some ⟨go, 0, none⟩) y0.length co, .bool false] 26 (0, 0))); clear hw))
            refine bodyPost_ret (results_cell_row rfl _ _ g4 26 #[.int .i64 cc, .int .i64 (a0_1 + a1_1), .int .i64 a0_2, .int .i64 a0_3, .slice (some ⟨go, 0, none⟩) y0.length co, .bool false] (0, 0) _ rfl (by (with_reducible repeat (first | refine blk_drewN ?_ _ | refine blk_drew ?_)); exact BZ9.out) Try.underlying26 rfl (by kernel_rfl)) rfl ?_
            exact ⟨_, rfl, by (with_reducible repeat (first | apply Kd.R_alloc | apply Kd.R_drewN | apply Kd.R_drew)); exact ON9.out.Rt S4.out.row S4.out.bz (by decide), by repeat (first | exact ON9.out.below S4.out.bel GS.out.m4 | apply below_alloc | apply pw_below_drewN | apply below_drew1)⟩
        · have HM := Aside0.mk (HM.out.trans (if_neg hb))
          have HX := Aside0.mk (HX.out.trans (if_neg hb))
          have htb : (a1_0 == 0) = false := by simp [hb]
          clear hb
          have hm0 : wr.cell? ⟨g2, 0, none⟩ = some (.int .i64 a0_0) := (blk_cell ST2.out.ba 0).trans rfl
          have hm1 : wr.cell? ⟨g3, 0, none⟩ = some (.int .i64 a1_0) := (blk_cell ST2.out.bb 0).trans rfl
          go_wp2
          clear hm0 hm1
          have S1 := Aside0.mk (impl_joined.St.drew ST2.out)
          obtain ⟨m', hm'⟩ : ∃ m', mn a0_2 a1_2 = m' := ⟨_, rfl⟩
          obtain ⟨x', hx'⟩ : ∃ x', mx a0_3 a1_3 = x' := ⟨_, rfl⟩
          obtain rfl : m' = M := (HM.out.trans hm').symm
          obtain rfl : x' = X := (HX.out.trans hx').symm
          have hmin : (if a1_2 < a0_2 then a1_2 else a0_2) = m' := hm'
          have hmax : (if a0_3 < a1_3 then a1_3 else a0_3) = x' := hx'
          refine start_ (n := 14) (S := fun w' => w'.cell? ⟨g2, 2, none⟩ = some (.int .i64 a0_2) ∧ w'.cell? ⟨g3, 2, none⟩ = some (.int .i64 a1_2) ∧ w'.cell? ⟨g2, 3, none⟩ = some (.int .i64 a0_3) ∧ w'.cell? ⟨g3, 3, none⟩ = some (.int .i64 a1_3)) (ds := [13]) #[false, false, false, false, false, false, false, false, false, false, false, false, false, false] (by kernel_rfl) rfl rfl ⟨(blk_cell S1.out.ba 2).trans rfl, (blk_cell S1.out.bb 2).trans rfl, (blk_cell S1.out.ba 3).trans rfl, (blk_cell S1.out.bb 3).trans rfl⟩ (fun hHeld => ?_)
          generalize wr.drew = w1 at S1 hHeld ⊢
          refine pure_ (i := 0) (N := some 49) (v := ?_) (a' := ?_) #[true, false, false, false, false, false, false, false, false, false, false, false, false, false] rfl rfl (by kernel_rfl) (fun _ _ _ h => h) (Or.inl ⟨by rfl, ?_⟩) ?_ ?_
          rotate_left
          · intro w'
            go_simp
            with_reducible rfl
          rotate_left
          · simp only [Act.put, List.setIfInBounds_toArray, List.set_cons_zero, List.set_cons_succ, i64_w, i32_w]
            rfl
          refine take_ (i := 1) (N := some 50) (v := ?_) (a' := ?_) #[true, true, false, false, false, false, false, false, false, false, false, false, false, false] rfl rfl (by kernel_rfl) (fun _ _ _ h => h) (Or.inl ⟨by rfl, ?_⟩) hHeld ?_ ?_
          rotate_left
          · rintro w' ⟨s0, s1, s2, s3⟩
            go_simp
            with_reducible rfl
          rotate_left
          · simp only [Act.put, List.setIfInBounds_toArray, List.set_cons_zero, List.set_cons_succ, i64_w, i32_w]
            rfl
          refine pure_ (i := 2) (N := some 51) (v := ?_) (a' := ?_) #[true, true, true, false, false, false, false, false, false, false, false, false, false, false] rfl rfl (by kernel_rfl) (fun _ _ _ h => h) (Or.inl ⟨by rfl, ?_⟩) ?_ ?_
          rotate_left
          · intro w'
            go_simp
            with_reducible rfl
          rotate_left
          · simp only [Act.put, List.setIfInBounds_toArray, List.set_cons_zero, List.set_cons_succ, i64_w, i32_w]
            rfl
          refine take_ (i := 3) (N := some 52) (v := ?_) (a' := ?_) #[true, true, true, true, false, false, false, false, false, false, false, false, false, false] rfl rfl (by kernel_rfl) (fun _ _ _ h => h) (Or.inl ⟨by rfl, ?_⟩) hHeld ?_ ?_
          rotate_left
          · rintro w' ⟨s0, s1, s2, s3⟩
            go_simp
            with_reducible rfl
          rotate_left
          · simp only [Act.put, List.setIfInBounds_toArray, List.set_cons_zero, List.set_cons_succ, i64_w, i32_w]
            rfl
          refine pure_ (i := 4) (N := some 53) (v := ?_) (a' := ?_) #[true, true, true, true, true, false, false, false, false, false, false, false, false, false] rfl rfl (by kernel_rfl) (fun _ _ _ h => h) (Or.inl ⟨by rfl, ?_⟩) ?_ ?_
          rotate_left
          · intro w'
            go_simp
            with_reducible rfl
          rotate_left
          · simp only [Act.put, List.setIfInBounds_toArray, List.set_cons_zero, List.set_cons_succ, i64_w, i32_w]
            rfl
          refine pure_ (i := 5) (N := some 54) (v := ?_) (a' := ?_) #[true, true, true, true, true, true, false, false, false, false, false, false, false, false] rfl rfl (by kernel_rfl) (fun _ _ _ h => h) (Or.inl ⟨by rfl, ?_⟩) ?_ ?_
          rotate_left
          · intro w'
            go_simp
            with_reducible rfl
          rotate_left
          · simp only [Act.put, List.setIfInBounds_toArray, List.set_cons_zero, List.set_cons_succ, i64_w, i32_w]
            rfl
          refine take_ (i := 6) (N := some 55) (v := ?_) (a' := ?_) #[true, true, true, true, true, true, true, false, false, false, false, false, false, false] rfl rfl (by kernel_rfl) (fun _ _ _ h => h) (Or.inl ⟨by rfl, ?_⟩) hHeld ?_ ?_
          rotate_left
          · rintro w' ⟨s0, s1, s2, s3⟩
            go_simp
            with_reducible rfl
          rotate_left
          · simp only [Act.put, List.setIfInBounds_toArray, List.set_cons_zero, List.set_cons_succ, i64_w, i32_w]
            rfl
          refine pure_ (i := 7) (N := some 56) (v := ?_) (a' := ?_) #[true, true, true, true, true, true, true, true, false, false, false, false, false, false] rfl rfl (by kernel_rfl) (fun _ _ _ h => h) (Or.inl ⟨by rfl, ?_⟩) ?_ ?_
          rotate_left
          · intro w'
            go_simp
            with_reducible rfl
          rotate_left
          · simp only [Act.put, List.setIfInBounds_toArray, List.set_cons_zero, List.set_cons_succ, i64_w, i32_w]
            rfl
          refine take_ (i := 8) (N := some 57) (v := ?_) (a' := ?_) #[true, true, true, true, true, true, true, true, true, false, false, false, false, false] rfl rfl (by kernel_rfl) (fun _ _ _ h => h) (Or.inl ⟨by rfl, ?_⟩) hHeld ?_ ?_
          rotate_left
          · rintro w' ⟨s0, s1, s2, s3⟩
            go_simp
            with_reducible rfl
          rotate_left
          · simp only [Act.put, List.setIfInBounds_toArray, List.set_cons_zero, List.set_cons_succ, i64_w, i32_w]
            rfl
          refine pure_ (i := 9) (N := some 58) (v := ?_) (a' := ?_) #[true, true, true, true, true, true, true, true, true, true, false, false, false, false] rfl rfl (by kernel_rfl) (fun _ _ _ h => h) (Or.inl ⟨by rfl, ?_⟩) ?_ ?_
          rotate_left
          · intro w'
            go_simp
            with_reducible rfl
          rotate_left
          · simp only [Act.put, List.setIfInBounds_toArray, List.set_cons_zero, List.set_cons_succ, i64_w, i32_w]
            rfl
          refine pure_ (i := 10) (N := some 59) (v := ?_) (a' := ?_) #[true, true, true, true, true, true, true, true, true, true, true, false, false, false] rfl rfl (by kernel_rfl) (fun _ _ _ h => h) (Or.inl ⟨by rfl, ?_⟩) ?_ ?_
          rotate_left
          · intro w'
            go_simp
            with_reducible rfl
          rotate_left
          · simp only [Act.put, List.setIfInBounds_toArray, List.set_cons_zero, List.set_cons_succ, i64_w, i32_w]
            rfl
          have hx2 : w1.cell? ⟨g5, 2, none⟩ = some (.int .i64 0) := (blk_cell S1.out.bo 2).trans rfl
          have hf2 := blk_frozen S1.out.bo 2
          refine one_ (i := 11) (N := none) #[true, true, true, true, true, true, true, true, true, true, true, true, false, false] rfl rfl (by kernel_rfl) (by decide) (fun K hK => ?_)
          refine skip_ (w1 := w1.setCell ⟨g5, 2, none⟩ (.int .i64 m')) (by rfl) rfl ?_ ?_
          · first | (go_simp; done) | (go_simp; rfl)
          have S2 := Aside0.mk (impl_joined.St.on5 S1.out GS.out ((On.refl g5 w1).set 2 (.int .i64 m')) (blk_put S1.out.bo 2 (.int .i64 m') rfl) : impl_joined.St w (w1.setCell ⟨g5, 2, none⟩ (.int .i64 m')) g2 g3 g4 g5 #[.int .i64 a0_0, .int .i64 a0_1, .int .i64 a0_2, .int .i64 a0_3, .slice A0_4 l0_4.length c0_4, .bool true] #[.int .i64 a1_0, .int .i64 a1_1, .int .i64 a1_2, .int .i64 a1_3, .slice A1_4 l1_4.length c1_4, .bool a1_5] (.int .i64 cc) (.int .i64 0) (.int .i64 m') (.int .i64 0) (.slice (some ⟨go, 0, none⟩) y0.length co) Hp F)
          generalize w1.setCell ⟨g5, 2, none⟩ (.int .i64 m') = w2 at S2 ⊢
          refine hK.out _ _ ⟨(blk_cell S2.out.ba 2).trans rfl, (blk_cell S2.out.bb 2).trans rfl, (blk_cell S2.out.ba 3).trans rfl, (blk_cell S2.out.bb 3).trans rfl⟩ (fun hHeld => ?_)
          clear hK K hx2 hf2 S1
          refine pure_ (i := 12) (N := some 60) (v := ?_) (a' := ?_) #[true, true, true, true, true, true, true, true, true, true, true, true, true, false] rfl rfl (by kernel_rfl) (fun _ _ _ h => h) (Or.inl ⟨by rfl, ?_⟩) ?_ ?_
          rotate_left
          · intro w'
            go_simp
            with_reducible rfl
          rotate_left
          · simp only [Act.put, List.setIfInBounds_toArray, List.set_cons_zero, List.set_cons_succ, i64_w, i32_w]
            rfl
          have hx3 : w2.cell? ⟨g5, 3, none⟩ = some (.int .i64 0) := (blk_cell S2.out.bo 3).trans rfl
          have hf3 := blk_frozen S2.out.bo 3
          refine last_ (i := 13) (N := none) #[true, true, true, true, true, true, true, true, true, true, true, true, true, true] rfl rfl (by kernel_rfl) (by decide) (fun K hK => ?_)
          refine skip_ (w1 := ?_) (by rfl) rfl ?_ ?_
          rotate_left
          · go_simp
            rfl
          refine hK.out _ _ ?_
          clear hK K
          refine done_ (by kernel_rfl) ?_
          have S3 := Aside0.mk (impl_joined.St.on5 S2.out GS.out ((On.refl g5 w2).set 3 (.int .i64 x')) (blk_put S2.out.bo 3 (.int .i64 x') rfl) : impl_joined.St w (w2.setCell ⟨g5, 3, none⟩ (.int .i64 x')) g2 g3 g4 g5 #[.int .i64 a0_0, .int .i64 a0_1, .int .i64 a0_2, .int .i64 a0_3, .slice A0_4 l0_4.length c0_4, .bool true] #[.int .i64 a1_0, .int .i64 a1_1, .int .i64 a1_2, .int .i64 a1_3, .slice A1_4 l1_4.length c1_4, .bool a1_5] (.int .i64 cc) (.int .i64 0) (.int .i64 m') (.int .i64 x') (.slice (some ⟨go, 0, none⟩) y0.length co) Hp F)
          generalize w2.setCell ⟨g5, 3, none⟩ (.int .i64 x') = w3 at S3 ⊢
          clear hHeld hx3 hf3 S2
          cases F with
          | true =>
            obtain rfl : S = 0 := HS.out
            have hq0 : w3.cell? ⟨g5, 0, none⟩ = some (.int .i64 cc) := (blk_cell S3.out.bo 0).trans rfl
            have hq1 : w3.cell? ⟨g5, 1, none⟩ = some (.int .i64 0) := (blk_cell S3.out.bo 1).trans rfl
            have hq2 : w3.cell? ⟨g5, 2, none⟩ = some (.int .i64 m') := (blk_cell S3.out.bo 2).trans rfl
            have hq3 : w3.cell? ⟨g5, 3, none⟩ = some (.int .i64 x') := (blk_cell S3.out.bo 3).trans rfl
            have hq4 : w3.cell? ⟨g5, 4, none⟩ = some (.slice (some ⟨go, 0, none⟩) y0.length co) := (blk_cell S3.out.bo 4).trans rfl
            have hq5 : w3.cell? ⟨g5, 5, none⟩ = some (.bool true) := (blk_cell S3.out.bo 5).trans rfl
            have hz0 : w3.cell? ⟨g4, 0, none⟩ = some (.int .i64 0) := (blk_cell S3.out.bz 0).trans rfl
            have hz1 : w3.cell? ⟨g4, 1, none⟩ = some (.int .i64 0) := (blk_cell S3.out.bz 1).trans rfl
            have hz2 : w3.cell? ⟨g4, 2, none⟩ = some (.int .i64 0) := (blk_cell S3.out.bz 2).trans rfl
            have hz3 : w3.cell? ⟨g4, 3, none⟩ = some (.int .i64 0) := (blk_cell S3.out.bz 3).trans rfl
            have hz4 : w3.cell? ⟨g4, 4, none⟩ = some (.slice none 0 0) := (blk_cell S3.out.bz 4).trans rfl
            have hz5 : w3.cell? ⟨g4, 5, none⟩ = some (.bool false) := (blk_cell S3.out.bz 5).trans rfl
            have hf0 := blk_frozen S3.out.bz 0
            have hf1 := blk_frozen S3.out.bz 1
            have hf2 := blk_frozen S3.out.bz 2
            have hf3 := blk_frozen S3.out.bz 3
            have hf4 := blk_frozen S3.out.bz 4
            have hf5 := blk_frozen S3.out.bz 5
            go_wp2_with ((with_reducible refine gate_store (t := 26) (p := 4) rfl ?_); refine store_event (t := 26) (p := 4) (v := ?vo_9026) (w1 := setAll w3 g4 0 [.int .i64 cc, .int .i64 0, .int .i64 m', .int .i64 x', .slice (some ⟨go, 0, none⟩) y0.length co, .bool true]) ?hg ?ho ?hn ?hr ?_; (case ho => rfl); (case hg => rfl); (case hn => rfl); (case hr => first | (go_simp; done) | (go_simp; rfl)); intro w9 hw; have ON9 := Aside0.mk ((by rw [hw]; exact setAll_on _ _ _ _) : On g4 w3 w9); have BZ9 := Aside0.mk ((by rw [hw]; exact setAll_blk _ S3.out.bz rfl) : w9.heap[g4]? = some (.cells #[.int .i64 cc, .int .i64 0, .int .i64 m', .int .i64 x', .slice (some ⟨go, 0, none⟩) y0.length co, .bool true] 26 (0, 0))); clear hw)
            refine bodyPost_ret (results_cell_row rfl _ _ g4 26 #[.int .i64 cc, .int .i64 0, .int .i64 m', .int .i64 x', .slice (some ⟨go, 0, none⟩) y0.length co, .bool true] (0, 0) _ rfl (by (with_reducible repeat (first | refine blk_drewN ?_ _ | refine blk_drew ?_)); exact BZ9.out) Try.underlying26 rfl (by kernel_rfl)) rfl ?_
            exact ⟨_, rfl, by (with_reducible repeat (first | apply Kd.R_alloc | apply Kd.R_drewN | apply Kd.R_drew)); exact ON9.out.Rt S3.out.row S3.out.bz (by decide), by repeat (first | exact ON9.out.below S3.out.bel GS.out.m4 | apply below_alloc | apply pw_below_drewN | apply below_drew1)⟩
          | false =>
            obtain rfl : S = a0_1 + a1_1 := HS.out
            have hq5 : w3.cell? ⟨g5, 5, none⟩ = some (.bool false) := (blk_cell S3.out.bo 5).trans rfl
            have hs0 : w3.cell? ⟨g2, 1, none⟩ = some (.int .i64 a0_1) := (blk_cell S3.out.ba 1).trans rfl
            have hs1 : w3.cell? ⟨g3, 1, none⟩ = some (.int .i64 a1_1) := (blk_cell S3.out.bb 1).trans rfl
            have hs2 : w3.cell? ⟨g5, 1, none⟩ = some (.int .i64 0) := (blk_cell S3.out.bo 1).trans rfl
            have hs3 := blk_frozen S3.out.bo 1
            go_wp2_with (first | ((with_reducible refine gate_store (t := 3) (p := 89) rfl ?_); refine store_event (t := 3) (p := 89) (v := ?vo_9027) (w1 := w3.setCell ⟨g5, 1, none⟩ (.int .i64 (a0_1 + a1_1))) ?hg ?ho ?hn ?hr ?_; (case ho => rfl); (case hg => rfl); (case hn => rfl); (case hr => first | (go_simp; done) | (go_simp; rfl)); intro w4 hw; have S4 := Aside0.mk ((by rw [hw]; exact S3.out.on5 GS.out ((On.refl _ _).set 1 _) (blk_put S3.out.bo 1 _ rfl)) : impl_joined.St w w4 g2 g3 g4 g5 #[.int .i64 a0_0, .int .i64 a0_1, .int .i64 a0_2, .int .i64 a0_3, .slice A0_4 l0_4.length c0_4, .bool true] #[.int .i64 a1_0, .int .i64 a1_1, .int .i64 a1_2, .int .i64 a1_3, .slice A1_4 l1_4.length c1_4, .bool a1_5] (.int .i64 cc) (.int .i64 (a0_1 + a1_1)) (.int .i64 m') (.int .i64 x') (.slice (some ⟨go, 0, none⟩) y0.length co) Hp false); clear hw hq5 hs0 hs1 hs2 hs3; have hq0 : w4.cell? ⟨g5, 0, none⟩ = some (.int .i64 cc) := (blk_cell S4.out.bo 0).trans rfl; have hq1 : w4.cell? ⟨g5, 1, none⟩ = some (.int .i64 (a0_1 + a1_1)) := (blk_cell S4.out.bo 1).trans rfl; have hq2 : w4.cell? ⟨g5, 2, none⟩ = some (.int .i64 m') := (blk_cell S4.out.bo 2).trans rfl; have hq3 : w4.cell? ⟨g5, 3, none⟩ = some (.int .i64 x') := (blk_cell S4.out.bo 3).trans rfl; have hq4 : w4.cell? ⟨g5, 4, none⟩ = some (.slice (some ⟨go, 0, none⟩) y0.length co) := (blk_cell S4.out.bo 4).trans rfl; have hq5 : w4.cell? ⟨g5, 5, none⟩ = some (.bool false) := (blk_cell S4.out.bo 5).trans rfl; have hz0 : w4.cell? ⟨g4, 0, none⟩ = some (.int .i64 0) := (blk_cell S4.out.bz 0).trans rfl; have hz1 : w4.cell? ⟨g4, 1, none⟩ = some (.int .i64 0) := (blk_cell S4.out.bz 1).trans rfl; have hz2 : w4.cell? ⟨g4, 2, none⟩ = some (.int .i64 0) := (blk_cell S4.out.bz 2).trans rfl; have hz3 : w4.cell? ⟨g4, 3, none⟩ = some (.int .i64 0) := (blk_cell S4.out.bz 3).trans rfl; have hz4 : w4.cell? ⟨g4, 4, none⟩ = some (.slice none 0 0) := (blk_cell S4.out.bz 4).trans rfl; have hz5 : w4.cell? ⟨g4, 5, none⟩ = some (.bool false) := (blk_cell S4.out.bz 5).trans rfl; have hf0 := blk_frozen S4.out.bz 0; have hf1 := blk_frozen S4.out.bz 1; have hf2 := blk_frozen S4.out.bz 2; have hf3 := blk_frozen S4.out.bz 3; have hf4 := blk_frozen S4.out.bz 4; have hf5 := blk_frozen S4.out.bz 5) | ((with_reducible refine gate_store (t := 26) (p := 4) rfl ?_); refine store_event (t := 26) (p := 4) (v := ?vo_9028) (w1 := setAll w4 g4 0 [.int .i64 cc, .int .i64 (a0_1 + a1_1), .int .i64 m', .int .i64 x', .slice (some ⟨go, 0, none⟩) y0.length co, .bool false]) ?hg ?ho ?hn ?hr ?_; (case ho => rfl); (case hg => rfl); (case hn => rfl); (case hr => first | (go_simp; done) | (go_simp; rfl)); intro w9 hw; have ON9 := Aside0.mk ((by rw [hw]; exact setAll_on _ _ _ _) : On g4 w4 w9); have BZ9 := Aside0.mk ((by rw [hw]; exact setAll_blk _ S4.out.bz rfl) : w9.heap[g4]? = some (.cells #[.int .i64 cc, .int .i64 (a0_1 + a1_1), .int .i64 m', .int .i64 x', .slice (some ⟨go, 0, none⟩) y0.length co, .bool false] 26 (0, 0))); clear hw))
            refine bodyPost_ret (results_cell_row rfl _ _ g4 26 #[.int .i64 cc, .int .i64 (a0_1 + a1_1), .int .i64 m', .int .i64 x', .slice (some ⟨go, 0, none⟩) y0.length co, .bool false] (0, 0) _ rfl (by (with_reducible repeat (first | refine blk_drewN ?_ _ | refine blk_drew ?_)); exact BZ9.out) Try.underlying26 rfl (by kernel_rfl)) rfl ?_
            exact ⟨_, rfl, by (with_reducible repeat (first | apply Kd.R_alloc | apply Kd.R_drewN | apply Kd.R_drew)); exact ON9.out.Rt S4.out.row S4.out.bz (by decide), by repeat (first | exact ON9.out.below S4.out.bel GS.out.m4 | apply below_alloc | apply pw_below_drewN | apply below_drew1)⟩
set_option maxHeartbeats 8000000 in
set_option maxRecDepth 100000 in
theorem impl_joined.calls_false (a0_0 : Int) (a0_1 : Int) (a0_2 : Int) (a0_3 : Int) (A0_4 : Option Addr) (c0_4 : Nat) (l0_4 : List Int) (a1_0 : Int) (a1_1 : Int) (a1_2 : Int) (a1_3 : Int) (A1_4 : Option Addr) (c1_4 : Nat) (l1_4 : List Int) (a1_5 : Bool) (cc S M X : Int) (f1 FF : Bool) (H : List Int) (w : World) (hr0_4 : Kd.C (Kd.int .i64) w A0_4 l0_4.length l0_4) (hc0_4 : l0_4.length ≤ c0_4) (hr1_4 : Kd.C (Kd.int .i64) w A1_4 l1_4.length l1_4) (hc1_4 : l1_4.length ≤ c1_4)
    (k0 : impl_joined.ok a0_0 a0_1 l0_4 = true) (k1 : impl_joined.ok a1_0 a1_1 l1_4 = true) (hcc : impl_joined.cap (a0_0 + a1_0) a1_5 = (cc, f1)) (hH : impl_joined.h l0_4 l1_4 f1 = (H, FF)) (hS : S = if FF = true then 0 else a0_1 + a1_1) (hM : M = if a0_0 = 0 then a1_2 else if a1_0 = 0 then a0_2 else mn a0_2 a1_2) (hX : X = if a0_0 = 0 then a1_3 else if a1_0 = 0 then a0_3 else mx a0_3 a1_3) :
    Calls Try.prog 22 #[.agg #[.int .i64 a0_0, .int .i64 a0_1, .int .i64 a0_2, .int .i64 a0_3, .slice A0_4 l0_4.length c0_4, .bool false], .agg #[.int .i64 a1_0, .int .i64 a1_1, .int .i64 a1_2, .int .i64 a1_3, .slice A1_4 l1_4.length c1_4, .bool a1_5]] w fun e w' => ∃ v4_ : Value, e = .returned (.agg #[.int .i64 cc, .int .i64 S, .int .i64 M, .int .i64 X, v4_, .bool FF]) ∧ Kd.R (Kd.int .i64) 3 w' w.heap.size (fun _ => True) v4_ H ∧ Below w.heap.size w w' := by
  have hu26 := Try.underlying26
  obtain ⟨⟨p0a, p0b⟩, ⟨p1a, p1b⟩, n0, x0⟩ := impl_joined.ok_open k0
  obtain ⟨⟨q0a, q0b⟩, ⟨q1a, q1b⟩, n1, x1⟩ := impl_joined.ok_open k1
  have HR0 := Aside0.mk hr0_4
  have HC0 := Aside0.mk hc0_4
  have HR1 := Aside0.mk hr1_4
  have HC1 := Aside0.mk hc1_4
  have N0 := Aside0.mk n0
  have N1 := Aside0.mk n1
  have X0 := Aside0.mk x0
  have X1 := Aside0.mk x1
  have HCC := Aside0.mk hcc
  have HH := Aside0.mk hH
  have HS := Aside0.mk hS
  have HM := Aside0.mk hM
  have HX := Aside0.mk hX
  clear k0 k1 hr0_4 hc0_4 hr1_4 hc1_4 n0 n1 x0 x1 hcc hH hS hM hX
  obtain ⟨y0, hy0⟩ : ∃ y : List Int, y = List.replicate 8 (0 : Int) := ⟨_, rfl⟩
  have Ny0 := Aside0.mk hy0
  have LY := Aside0.mk (show y0.length = 8 by rw [hy0]; rfl)
  clear hy0
  have HB := Aside0.mk (Below.refl w.heap.size w)
  go_enter Try.func22, Try.ntmps22
  go_wp2_with (first | ((with_reducible refine gate_dst (N := 2) rfl ?_); refine box_event ?hg (N := 2) ?hd (cs := #[.int .i64 a0_0, .int .i64 a0_1, .int .i64 a0_2, .int .i64 a0_3, .slice A0_4 l0_4.length c0_4, .bool false]) (t := 26) ?hr ?_; (case hd => rfl); (case hg => rfl); (case hr => first | (go_simp; done) | (go_simp; rfl)); intro g2 hg w2 hbox hb; have HB2 := Aside0.mk (below_step (by repeat (first | exact HB.out | apply below_alloc | apply pw_below_drewN | apply below_drew1)) hb); have BA2 := Aside0.mk hbox; clear hb hbox hg) | ((with_reducible refine gate_dst (N := 3) rfl ?_); refine box_event ?hg (N := 3) ?hd (cs := #[.int .i64 a1_0, .int .i64 a1_1, .int .i64 a1_2, .int .i64 a1_3, .slice A1_4 l1_4.length c1_4, .bool a1_5]) (t := 26) ?hr ?_; (case hd => rfl); (case hg => rfl); (case hr => first | (go_simp; done) | (go_simp; rfl)); intro g3 hg w3 hbox hb; have BA3 := Aside0.mk (blk_below BA2.out hb); have HB3 := Aside0.mk (below_step HB2.out hb); have BB3 := Aside0.mk hbox; clear hb hbox hg) | ((with_reducible refine gate_dst (N := 4) rfl ?_); refine box_event ?hg (N := 4) ?hd (cs := #[.int .i64 0, .int .i64 0, .int .i64 0, .int .i64 0, .slice none 0 0, .bool false]) (t := 26) ?hr ?_; (case hd => rfl); (case hg => rfl); (case hr => first | (go_simp; done) | (go_simp; rfl)); intro g4 hg w4 hbox hb; have BA4 := Aside0.mk (blk_below BA3.out hb); have BB4 := Aside0.mk (blk_below BB3.out hb); have HB4 := Aside0.mk (below_step HB3.out hb); have BZ4 := Aside0.mk hbox; have M4 := Aside0.mk ((by rw [hg]; exact below_size HB3.out) : w.heap.size ≤ g4); clear hb hbox hg) | ((with_reducible refine gate_callee (f := 35) rfl ?_); refine goesL_ (some 8) rfl rfl Try.func35 (by kernel_rfl) rfl #[] rfl (by (try simp only [List.map_toArray, List.map_cons, List.map_nil]); first | done | rfl) ?_; (refine (impl_noAgg.calls 0 0 0 0 y0 false _ (by rw [Ny0.out]; rfl)).mono ?_); rintro e w5 ⟨v5, rfl, ho, hb⟩; refine ⟨_, rfl, ?_⟩; have HO5 := Aside0.mk (Kd.R_lower ho (below_size (by repeat (first | exact HB4.out | apply below_alloc | apply pw_below_drewN | apply below_drew1)))); have BA5 := Aside0.mk (blk_below (by (with_reducible repeat (first | refine blk_drewN ?_ _ | refine blk_drew ?_)); exact BA4.out) hb); have BB5 := Aside0.mk (blk_below (by (with_reducible repeat (first | refine blk_drewN ?_ _ | refine blk_drew ?_)); exact BB4.out) hb); have BZ5 := Aside0.mk (blk_below (by (with_reducible repeat (first | refine blk_drewN ?_ _ | refine blk_drew ?_)); exact BZ4.out) hb); have HB5 := Aside0.mk (below_step (by repeat (first | exact HB4.out | apply below_alloc | apply pw_below_drewN | apply below_drew1)) hb); clear ho hb; obtain ⟨go, co, eo, hgo, hgl, cells5, hcells⟩ := Kd.R_form HO5.out (by have := LY.out; omega); have MGO := Aside0.mk hgo; clear hgo hgl hcells; subst eo) | ((with_reducible refine gate_dst (N := 5) rfl ?_); refine box_event ?hg (N := 5) ?hd (cs := #[.int .i64 0, .int .i64 0, .int .i64 0, .int .i64 0, .slice none 0 0, .bool false]) (t := 26) ?hr ?_; (case hd => rfl); (case hg => rfl); (case hr => first | (go_simp; done) | (go_simp; rfl)); intro g5 hg w6 hbox hb; have GS := Aside0.mk (impl_joined.Gs.mk M4.out (by rw [hg]; exact below_size HB5.out) (by rw [hg]; exact Nat.ne_of_lt (blk_lt BA5.out)) (by rw [hg]; exact Nat.ne_of_lt (blk_lt BB5.out)) (by rw [hg]; exact Nat.ne_of_lt (blk_lt BZ5.out)) : impl_joined.Gs w.heap.size g2 g3 g4 g5); have BA6 := Aside0.mk (blk_below BA5.out hb); have BB6 := Aside0.mk (blk_below BB5.out hb); have BZ6 := Aside0.mk (blk_below BZ5.out hb); have BO6 := Aside0.mk hbox; have HO6 := Aside0.mk (Kd.R_below HO5.out hb); have HB6 := Aside0.mk (below_step HB5.out hb); clear hb hbox hg; have hz0 := (blk_cell BO6.out 0); have hz1 := (blk_cell BO6.out 1); have hz2 := (blk_cell BO6.out 2); have hz3 := (blk_cell BO6.out 3); have hz4 := (blk_cell BO6.out 4); have hz5 := (blk_cell BO6.out 5); simp only [List.getElem?_toArray, List.getElem?_cons_zero, List.getElem?_cons_succ] at hz0 hz1 hz2 hz3 hz4 hz5; have hf0 := blk_frozen BO6.out 0; have hf1 := blk_frozen BO6.out 1; have hf2 := blk_frozen BO6.out 2; have hf3 := blk_frozen BO6.out 3; have hf4 := blk_frozen BO6.out 4; have hf5 := blk_frozen BO6.out 5) | ((with_reducible refine gate_store (t := 26) (p := 5) rfl ?_); refine store_event (t := 26) (p := 5) (v := ?vo_9029) (w1 := setAll w6 g5 0 [.int .i64 0, .int .i64 0, .int .i64 0, .int .i64 0, (.slice (some ⟨go, 0, none⟩) y0.length co), .bool false]) ?hg ?ho ?hn ?hr ?_; (case ho => rfl); (case hg => rfl); (case hn => rfl); (case hr => first | (go_simp; done) | (go_simp; rfl)); intro w7 hw; have ON7 : On g5 w6 w7 := (by rw [hw]; exact setAll_on _ _ _ _); have BO7 : w7.heap[g5]? = some (.cells #[.int .i64 0, .int .i64 0, .int .i64 0, .int .i64 0, (.slice (some ⟨go, 0, none⟩) y0.length co), .bool false] 26 (0, 0)) := (by rw [hw]; exact setAll_blk _ BO6.out rfl); have S7 := Aside0.mk (⟨ON7.blk BA6.out GS.out.n25, ON7.blk BB6.out GS.out.n35, ON7.blk BZ6.out GS.out.n45, BO7, ON7.Rt HO6.out BO6.out (by decide), ON7.below HB6.out GS.out.m5⟩ : impl_joined.St w w7 g2 g3 g4 g5 #[.int .i64 a0_0, .int .i64 a0_1, .int .i64 a0_2, .int .i64 a0_3, .slice A0_4 l0_4.length c0_4, .bool false] #[.int .i64 a1_0, .int .i64 a1_1, .int .i64 a1_2, .int .i64 a1_3, .slice A1_4 l1_4.length c1_4, .bool a1_5] (.int .i64 0) (.int .i64 0) (.int .i64 0) (.int .i64 0) (.slice (some ⟨go, 0, none⟩) y0.length co) y0 false); clear hw ON7 BO7 hz0 hz1 hz2 hz3 hz4 hz5 hf0 hf1 hf2 hf3 hf4 hf5 BA6 BB6 BZ6 BO6 HO6 HB6; have ha5 : w7.cell? ⟨g2, 5, none⟩ = some (.bool false) := (blk_cell S7.out.ba 5).trans rfl; have hb5 : w7.cell? ⟨g3, 5, none⟩ = some (.bool a1_5) := (blk_cell S7.out.bb 5).trans rfl; have hc5 : w7.cell? ⟨g5, 5, none⟩ = some (.bool false) := (blk_cell S7.out.bo 5).trans rfl; have hf5 := blk_frozen S7.out.bo 5) | ((with_reducible refine gate_store (t := 4) (p := 15) rfl ?_); refine store_event (t := 4) (p := 15) (v := ?vo_9030) (w1 := w7.setCell ⟨g5, 5, none⟩ (.bool a1_5)) ?hg ?ho ?hn ?hr ?_; (case ho => rfl); (case hg => rfl); (case hn => rfl); (case hr => first | (go_simp; done) | (go_simp; rfl)); intro w8 hw; have S8 := Aside0.mk ((by rw [hw]; exact S7.out.on5 GS.out ((On.refl _ _).set 5 _) (blk_put S7.out.bo 5 _ rfl)) : impl_joined.St w w8 g2 g3 g4 g5 #[.int .i64 a0_0, .int .i64 a0_1, .int .i64 a0_2, .int .i64 a0_3, .slice A0_4 l0_4.length c0_4, .bool false] #[.int .i64 a1_0, .int .i64 a1_1, .int .i64 a1_2, .int .i64 a1_3, .slice A1_4 l1_4.length c1_4, .bool a1_5] (.int .i64 0) (.int .i64 0) (.int .i64 0) (.int .i64 0) (.slice (some ⟨go, 0, none⟩) y0.length co) y0 a1_5); clear hw ha5 hb5 hc5 hf5; have ha0 : w8.cell? ⟨g2, 0, none⟩ = some (.int .i64 a0_0) := (blk_cell S8.out.ba 0).trans rfl; have hb0 : w8.cell? ⟨g3, 0, none⟩ = some (.int .i64 a1_0) := (blk_cell S8.out.bb 0).trans rfl) | (go_at_call 36; (with_reducible refine (impl_joined.capd (a0_0 + a1_0) a1_5 cc f1 HCC.out (.int .i64 0) (.int .i64 0) (.int .i64 0) (.int .i64 0) (.slice (some ⟨go, 0, none⟩) y0.length co) g5 _ (by (with_reducible repeat (first | refine blk_drewN ?_ _ | refine blk_drew ?_)); exact S8.out.bo)).mono ?_); rintro e w9 ⟨rfl, hcd⟩; have S9 := Aside0.mk (impl_joined.St.on5 (by repeat (first | exact S8.out | apply impl_joined.St.drewN | apply impl_joined.St.drew)) GS.out hcd.on hcd.blk); clear hcd ha0 hb0; have hd0 : w9.cell? ⟨g5, 0, none⟩ = some (.int .i64 0) := (blk_cell S9.out.bo 0).trans rfl; have he0 := blk_frozen S9.out.bo 0) | ((with_reducible refine gate_store (t := 3) (p := 24) rfl ?_); refine store_event (t := 3) (p := 24) (v := ?vo_9031) (w1 := w9.setCell ⟨g5, 0, none⟩ (.int .i64 cc)) ?hg ?ho ?hn ?hr ?_; (case ho => rfl); (case hg => rfl); (case hn => rfl); (case hr => first | (go_simp; done) | (go_simp; rfl)); intro w10 hw; have S10 := Aside0.mk ((by rw [hw]; exact S9.out.on5 GS.out ((On.refl _ _).set 0 _) (blk_put S9.out.bo 0 _ rfl)) : impl_joined.St w w10 g2 g3 g4 g5 #[.int .i64 a0_0, .int .i64 a0_1, .int .i64 a0_2, .int .i64 a0_3, .slice A0_4 l0_4.length c0_4, .bool false] #[.int .i64 a1_0, .int .i64 a1_1, .int .i64 a1_2, .int .i64 a1_3, .slice A1_4 l1_4.length c1_4, .bool a1_5] (.int .i64 cc) (.int .i64 0) (.int .i64 0) (.int .i64 0) (.slice (some ⟨go, 0, none⟩) y0.length co) y0 f1); clear hw hd0 he0; have hg4 : w10.cell? ⟨g5, 4, none⟩ = some (.slice (some ⟨go, 0, none⟩) y0.length co) := (blk_cell S10.out.bo 4).trans rfl))
  go_loopg [28] 8 (fun gg v28 w' => ∃ (kk : Nat) (Hp : List Int) (F : Bool), kk ≤ 8 ∧ 8 - kk ≤ gg ∧ v28 = .int .i64 kk ∧ Aside0 (Hp.length = kk ∧ Hp ++ (impl_joined.h (l0_4.drop kk) (l1_4.drop kk) F).1 = H ∧ (impl_joined.h (l0_4.drop kk) (l1_4.drop kk) F).2 = FF) ∧ Aside0 (impl_joined.St w w' g2 g3 g4 g5 #[.int .i64 a0_0, .int .i64 a0_1, .int .i64 a0_2, .int .i64 a0_3, .slice A0_4 l0_4.length c0_4, .bool false] #[.int .i64 a1_0, .int .i64 a1_1, .int .i64 a1_2, .int .i64 a1_3, .slice A1_4 l1_4.length c1_4, .bool a1_5] (.int .i64 cc) (.int .i64 0) (.int .i64 0) (.int .i64 0) (.slice (some ⟨go, 0, none⟩) y0.length co) (Hp ++ List.replicate (8 - kk) 0) F))
  case atStart => exact ⟨0, [], f1, by omega, by omega, rfl, ⟨rfl, by have := HH.out; simp [this], by have := HH.out; simp [this]⟩, ⟨by (try simp only [List.nil_append, Nat.sub_zero]); rw [← Ny0.out]; repeat (first | exact S10.out | apply impl_joined.St.drewN | apply impl_joined.St.drew)⟩⟩
  case round =>
    obtain ⟨kk, Hp, F, hkk, hg, rfl, HP, ST⟩ := hrel
    clear hg4 S10 HH
    by_cases hlt : kk < 8
    · have hly := LY.out
      have hl0 := N0.out
      have hl1 := N1.out
      have hltz : (kk : Int) < (y0.length : Int) := by omega
      have hlt0 : (kk : Int) < (l0_4.length : Int) := by omega
      have hlt1 : (kk : Int) < (l1_4.length : Int) := by omega
      have hk0 : (0 : Int) ≤ (kk : Int) := by omega
      obtain ⟨ada, ea, _⟩ := Kd.at_int HR0.out (kk : Int) hk0 hlt0
      cases ea
      obtain ⟨adb, eb, _⟩ := Kd.at_int HR1.out (kk : Int) hk0 hlt1
      cases eb
      have hk8 : kk < l0_4.length := by omega
      have hk9 : kk < l1_4.length := by omega
      have hXA : ∀ V, Below w.heap.size w V → V.cell? (ada.add kk) = some (.int .i64 (l0_4[kk]'hk8)) := fun V hB => impl_joined.cell_at HR0.out hB kk hk8
      have hXB : ∀ V, Below w.heap.size w V → V.cell? (adb.add kk) = some (.int .i64 (l1_4[kk]'hk9)) := fun V hB => impl_joined.cell_at HR1.out hB kk hk9
      have hP := HP.out
      rw [List.drop_eq_getElem_cons hk8, List.drop_eq_getElem_cons hk9] at hP
      obtain ⟨ra1, ra2⟩ := X0.out _ (List.getElem_mem hk8)
      obtain ⟨rb1, rb2⟩ := X1.out _ (List.getElem_mem hk9)
      generalize l0_4[kk]'hk8 = a at hXA hP ra1 ra2
      generalize l1_4[kk]'hk9 = b at hXB hP rb1 rb2
      have XA := Aside0.mk hXA
      have XB := Aside0.mk hXB
      clear hly hl0 hl1 HP hk8 hk9 hXA hXB
      simp only [impl_joined.h] at hP
      obtain ⟨⟨c', f'⟩, hcf⟩ : ∃ p : Int × Bool, impl_joined.cap (a + b) F = p := ⟨_, rfl⟩
      rw [hcf] at hP
      simp only at hP
      have HCF := Aside0.mk hcf
      have HP2 := Aside0.mk hP
      clear hcf hP
      go_wp2
      have S1 := Aside0.mk (impl_joined.St.drew ST.out)
      refine start_ (n := 18) (S := fun w' => w'.cell? ⟨g5, 4, none⟩ = some (.slice (some ⟨go, 0, none⟩) y0.length co) ∧ w'.cell? ⟨g2, 4, none⟩ = some (.slice (some ada) l0_4.length c0_4) ∧ w'.cell? (ada.add kk) = some (.int .i64 a) ∧ w'.cell? ⟨g3, 4, none⟩ = some (.slice (some adb) l1_4.length c1_4) ∧ w'.cell? (adb.add kk) = some (.int .i64 b)) (ds := [17]) #[false, false, false, false, false, false, false, false, false, false, false, false, false, false, false, false, false, false] (by kernel_rfl) rfl rfl ⟨(blk_cell S1.out.bo 4).trans rfl, (blk_cell S1.out.ba 4).trans rfl, XA.out _ S1.out.bel, (blk_cell S1.out.bb 4).trans rfl, XB.out _ S1.out.bel⟩ (fun hHeld => ?_)
      generalize wr.drew = w1 at S1 hHeld ⊢
      have hwr : IntKind.i64.wrap (a + b) = a + b := by rw [i64_w]; unfold wrap64; omega
      refine pure_ (i := 0) (N := some 31) (v := ?_) (a' := ?_) #[true, false, false, false, false, false, false, false, false, false, false, false, false, false, false, false, false, false] rfl rfl (by kernel_rfl) (fun _ _ _ h => h) (Or.inl ⟨by rfl, ?_⟩) ?_ ?_
      rotate_left
      · intro w'
        go_simp
        with_reducible rfl
      rotate_left
      · simp only [Act.put, List.setIfInBounds_toArray, List.set_cons_zero, List.set_cons_succ, i64_w, i32_w]
        rfl
      refine take_ (i := 1) (N := some 32) (v := ?_) (a' := ?_) #[true, true, false, false, false, false, false, false, false, false, false, false, false, false, false, false, false, false] rfl rfl (by kernel_rfl) (fun _ _ _ h => h) (Or.inl ⟨by rfl, ?_⟩) hHeld ?_ ?_
      rotate_left
      · rintro w' ⟨s0, s1, s2, s3, s4⟩
        go_simp
        with_reducible rfl
      rotate_left
      · simp only [Act.put, List.setIfInBounds_toArray, List.set_cons_zero, List.set_cons_succ, i64_w, i32_w]
        rfl
      refine pure_ (i := 2) (N := some 33) (v := ?_) (a' := ?_) #[true, true, true, false, false, false, false, false, false, false, false, false, false, false, false, false, false, false] rfl rfl (by kernel_rfl) (fun _ _ _ h => h) (Or.inl ⟨by rfl, ?_⟩) ?_ ?_
      rotate_left
      · intro w'
        go_simp
        with_reducible rfl
      rotate_left
      · simp only [Act.put, List.setIfInBounds_toArray, List.set_cons_zero, List.set_cons_succ, i64_w, i32_w]
        rfl
      refine pure_ (i := 3) (N := some 34) (v := ?_) (a' := ?_) #[true, true, true, true, false, false, false, false, false, false, false, false, false, false, false, false, false, false] rfl rfl (by kernel_rfl) (fun _ _ _ h => h) (Or.inl ⟨by rfl, ?_⟩) ?_ ?_
      rotate_left
      · intro w'
        go_simp
        with_reducible rfl
      rotate_left
      · simp only [Act.put, List.setIfInBounds_toArray, List.set_cons_zero, List.set_cons_succ, i64_w, i32_w]
        rfl
      refine pure_ (i := 4) (N := some 35) (v := ?_) (a' := ?_) #[true, true, true, true, true, false, false, false, false, false, false, false, false, false, false, false, false, false] rfl rfl (by kernel_rfl) (fun _ _ _ h => h) (Or.inl ⟨by rfl, ?_⟩) ?_ ?_
      rotate_left
      · intro w'
        go_simp
        with_reducible rfl
      rotate_left
      · simp only [Act.put, List.setIfInBounds_toArray, List.set_cons_zero, List.set_cons_succ, i64_w, i32_w]
        rfl
      refine take_ (i := 5) (N := some 36) (v := ?_) (a' := ?_) #[true, true, true, true, true, true, false, false, false, false, false, false, false, false, false, false, false, false] rfl rfl (by kernel_rfl) (fun _ _ _ h => h) (Or.inl ⟨by rfl, ?_⟩) hHeld ?_ ?_
      rotate_left
      · rintro w' ⟨s0, s1, s2, s3, s4⟩
        go_simp
        with_reducible rfl
      rotate_left
      · simp only [Act.put, List.setIfInBounds_toArray, List.set_cons_zero, List.set_cons_succ, i64_w, i32_w]
        rfl
      refine pure_ (i := 6) (N := some 37) (v := ?_) (a' := ?_) #[true, true, true, true, true, true, true, false, false, false, false, false, false, false, false, false, false, false] rfl rfl (by kernel_rfl) (fun _ _ _ h => h) (Or.inl ⟨by rfl, ?_⟩) ?_ ?_
      rotate_left
      · intro w'
        go_simp
        with_reducible rfl
      rotate_left
      · simp only [Act.put, List.setIfInBounds_toArray, List.set_cons_zero, List.set_cons_succ, i64_w, i32_w]
        rfl
      refine pure_ (i := 7) (N := some 38) (v := ?_) (a' := ?_) #[true, true, true, true, true, true, true, true, false, false, false, false, false, false, false, false, false, false] rfl rfl (by kernel_rfl) (fun _ _ _ h => h) (Or.inl ⟨by rfl, ?_⟩) ?_ ?_
      rotate_left
      · intro w'
        go_simp
        with_reducible rfl
      rotate_left
      · simp only [Act.put, List.setIfInBounds_toArray, List.set_cons_zero, List.set_cons_succ, i64_w, i32_w]
        rfl
      refine take_ (i := 8) (N := some 39) (v := ?_) (a' := ?_) #[true, true, true, true, true, true, true, true, true, false, false, false, false, false, false, false, false, false] rfl rfl (by kernel_rfl) (fun _ _ _ h => h) (Or.inl ⟨by rfl, ?_⟩) hHeld ?_ ?_
      rotate_left
      · rintro w' ⟨s0, s1, s2, s3, s4⟩
        go_simp
        with_reducible rfl
      rotate_left
      · simp only [Act.put, List.setIfInBounds_toArray, List.set_cons_zero, List.set_cons_succ, i64_w, i32_w]
        rfl
      refine pure_ (i := 9) (N := some 40) (v := ?_) (a' := ?_) #[true, true, true, true, true, true, true, true, true, true, false, false, false, false, false, false, false, false] rfl rfl (by kernel_rfl) (fun _ _ _ h => h) (Or.inl ⟨by rfl, ?_⟩) ?_ ?_
      rotate_left
      · intro w'
        go_simp
        with_reducible rfl
      rotate_left
      · simp only [Act.put, List.setIfInBounds_toArray, List.set_cons_zero, List.set_cons_succ, i64_w, i32_w]
        rfl
      refine take_ (i := 10) (N := some 41) (v := ?_) (a' := ?_) #[true, true, true, true, true, true, true, true, true, true, true, false, false, false, false, false, false, false] rfl rfl (by kernel_rfl) (fun _ _ _ h => h) (Or.inl ⟨by rfl, ?_⟩) hHeld ?_ ?_
      rotate_left
      · rintro w' ⟨s0, s1, s2, s3, s4⟩
        go_simp
        with_reducible rfl
      rotate_left
      · simp only [Act.put, List.setIfInBounds_toArray, List.set_cons_zero, List.set_cons_succ, i64_w, i32_w]
        rfl
      refine pure_ (i := 11) (N := some 42) (v := ?_) (a' := ?_) #[true, true, true, true, true, true, true, true, true, true, true, true, false, false, false, false, false, false] rfl rfl (by kernel_rfl) (fun _ _ _ h => h) (Or.inl ⟨by rfl, ?_⟩) ?_ ?_
      rotate_left
      · intro w'
        go_simp
        with_reducible rfl
      rotate_left
      · simp only [Act.put, List.setIfInBounds_toArray, List.set_cons_zero, List.set_cons_succ, i64_w, i32_w]
        rfl
      refine pure_ (i := 12) (N := some 43) (v := ?_) (a' := ?_) #[true, true, true, true, true, true, true, true, true, true, true, true, true, false, false, false, false, false] rfl rfl (by kernel_rfl) (fun _ _ _ h => h) (Or.inl ⟨by rfl, ?_⟩) ?_ ?_
      rotate_left
      · intro w'
        go_simp
        with_reducible rfl
      rotate_left
      · simp only [Act.put, List.setIfInBounds_toArray, List.set_cons_zero, List.set_cons_succ, i64_w, i32_w]
        rfl
      refine take_ (i := 13) (N := some 44) (v := ?_) (a' := ?_) #[true, true, true, true, true, true, true, true, true, true, true, true, true, true, false, false, false, false] rfl rfl (by kernel_rfl) (fun _ _ _ h => h) (Or.inl ⟨by rfl, ?_⟩) hHeld ?_ ?_
      rotate_left
      · rintro w' ⟨s0, s1, s2, s3, s4⟩
        go_simp
        with_reducible rfl
      rotate_left
      · simp only [Act.put, List.setIfInBounds_toArray, List.set_cons_zero, List.set_cons_succ, i64_w, i32_w]
        rfl
      refine pure_ (i := 14) (N := some 45) (v := ?_) (a' := ?_) #[true, true, true, true, true, true, true, true, true, true, true, true, true, true, true, false, false, false] rfl rfl (by kernel_rfl) (fun _ _ _ h => h) (Or.inl ⟨by rfl, ?_⟩) ?_ ?_
      rotate_left
      · intro w'
        go_simp
        with_reducible rfl
      rotate_left
      · simp only [Act.put, List.setIfInBounds_toArray, List.set_cons_zero, List.set_cons_succ, i64_w, i32_w]
        rfl
      clear hwr
      refine one_ (i := 15) (N := some 46) #[true, true, true, true, true, true, true, true, true, true, true, true, true, true, true, true, false, false] rfl rfl (by kernel_rfl) (by decide) (fun K hK => ?_)
      refine call_ 36 #[.int .i64 (a + b), .pointer (some ⟨g5, 0, none⟩)] (by rfl) rfl ?hrun ?_
      (case hrun => first | (go_simp; done) | (go_simp; rfl))
      (with_reducible refine (impl_joined.capd (a + b) F c' f' HCF.out (.int .i64 cc) (.int .i64 0) (.int .i64 0) (.int .i64 0) (.slice (some ⟨go, 0, none⟩) y0.length co) g5 _ S1.out.bo).mono ?_)
      rintro e w2 ⟨rfl, hcd⟩
      refine ⟨_, rfl, ?_⟩
      have S2 := Aside0.mk (impl_joined.St.on5 S1.out GS.out hcd.on hcd.blk)
      clear hcd S1
      obtain ⟨hx6, hf6⟩ := Kd.R_celln 0 S2.out.row (kk : Int) hk0 hltz
      rw [Int.toNat_natCast] at hx6 hf6
      refine hK.out _ _ ⟨(blk_cell S2.out.bo 4).trans rfl, (blk_cell S2.out.ba 4).trans rfl, XA.out _ S2.out.bel, (blk_cell S2.out.bb 4).trans rfl, XB.out _ S2.out.bel⟩ (fun hHeld => ?_)
      clear hK K
      refine norm_ (a' := ?_) ?_ ?_
      rotate_left
      · show Act.put _ (some 46) _ = _
        simp only [Act.put, List.setIfInBounds_toArray, List.set_cons_zero, List.set_cons_succ, i64_w, i32_w]
        rfl
      refine pure_ (i := 16) (N := some 47) (v := ?_) (a' := ?_) #[true, true, true, true, true, true, true, true, true, true, true, true, true, true, true, true, true, false] rfl rfl (by kernel_rfl) (fun _ _ _ h => h) (Or.inl ⟨by rfl, ?_⟩) ?_ ?_
      rotate_left
      · intro w'
        go_simp
        with_reducible rfl
      rotate_left
      · simp only [Act.put, List.setIfInBounds_toArray, List.set_cons_zero, List.set_cons_succ, i64_w, i32_w]
        rfl
      refine last_ (i := 17) (N := none) #[true, true, true, true, true, true, true, true, true, true, true, true, true, true, true, true, true, true] rfl rfl (by kernel_rfl) (by decide) (fun K hK => ?_)
      refine skip_ (w1 := ?_) (by rfl) rfl ?_ ?_
      rotate_left
      · go_simp
        rfl
      refine hK.out _ _ ?_
      clear hK K
      refine done_ (by kernel_rfl) ?_
      have S3 := Aside0.mk (impl_joined.St.row' S2.out MGO.out kk c')
      rw [impl_joined.set_next Hp c' kk HP2.out.1 hlt] at S3
      clear hHeld hx6 hf6 S2
      go_wp2
      go_roundg (8 - (kk + 1))
      case measure => omega
      case rel =>
        refine ⟨kk + 1, Hp ++ [c'], f', by omega, by omega, by go_num, ⟨by rw [List.length_append, HP2.out.1]; rfl, by have := HP2.out.2.1; simpa using this, HP2.out.2.2⟩, ⟨by repeat (first | exact S3.out | apply impl_joined.St.drewN | apply impl_joined.St.drew)⟩⟩
    · have : kk = 8 := by omega
      subst this
      have hP := HP.out
      have hly := LY.out
      rw [List.drop_eq_nil_of_le (Nat.le_of_eq N0.out), List.drop_eq_nil_of_le (Nat.le_of_eq N1.out)] at hP
      simp only [impl_joined.h, List.append_nil] at hP
      obtain ⟨_, rfl, rfl⟩ := hP
      have hltz : ¬ ((8 : Nat) : Int) < (y0.length : Int) := by omega
      have hltw : ¬ (8 : Int) < (y0.length : Int) := by omega
      have ST2 := Aside0.mk ((by have := ST.out; simpa using this) : impl_joined.St w wr g2 g3 g4 g5 #[.int .i64 a0_0, .int .i64 a0_1, .int .i64 a0_2, .int .i64 a0_3, .slice A0_4 l0_4.length c0_4, .bool false] #[.int .i64 a1_0, .int .i64 a1_1, .int .i64 a1_2, .int .i64 a1_3, .slice A1_4 l1_4.length c1_4, .bool a1_5] (.int .i64 cc) (.int .i64 0) (.int .i64 0) (.int .i64 0) (.slice (some ⟨go, 0, none⟩) y0.length co) Hp F)
      clear HP ST hly hlt hg hkk
      by_cases ha : a0_0 = 0
      · have HM := Aside0.mk (HM.out.trans (if_pos ha))
        have HX := Aside0.mk (HX.out.trans (if_pos ha))
        have hta : (a0_0 == 0) = true := by simp [ha]
        clear ha
        have hm0 : wr.cell? ⟨g2, 0, none⟩ = some (.int .i64 a0_0) := (blk_cell ST2.out.ba 0).trans rfl
        have hm1 : wr.cell? ⟨g3, 0, none⟩ = some (.int .i64 a1_0) := (blk_cell ST2.out.bb 0).trans rfl
        go_wp2
        clear hm0 hm1
        have S1 := Aside0.mk (impl_joined.St.drew ST2.out)
        obtain rfl : a1_2 = M := HM.out.symm
        obtain rfl : a1_3 = X := HX.out.symm
        refine start_ (n := 8) (S := fun w' => w'.cell? ⟨g3, 2, none⟩ = some (.int .i64 a1_2) ∧ w'.cell? ⟨g3, 3, none⟩ = some (.int .i64 a1_3)) (ds := [7]) #[false, false, false, false, false, false, false, false] (by kernel_rfl) rfl rfl ⟨(blk_cell S1.out.bb 2).trans rfl, (blk_cell S1.out.bb 3).trans rfl⟩ (fun hHeld => ?_)
        generalize wr.drew = w1 at S1 hHeld ⊢
        refine pure_ (i := 0) (N := some 65) (v := ?_) (a' := ?_) #[true, false, false, false, false, false, false, false] rfl rfl (by kernel_rfl) (fun _ _ _ h => h) (Or.inl ⟨by rfl, ?_⟩) ?_ ?_
        rotate_left
        · intro w'
          go_simp
          with_reducible rfl
        rotate_left
        · simp only [Act.put, List.setIfInBounds_toArray, List.set_cons_zero, List.set_cons_succ, i64_w, i32_w]
          rfl
        refine take_ (i := 1) (N := some 66) (v := ?_) (a' := ?_) #[true, true, false, false, false, false, false, false] rfl rfl (by kernel_rfl) (fun _ _ _ h => h) (Or.inl ⟨by rfl, ?_⟩) hHeld ?_ ?_
        rotate_left
        · rintro w' ⟨s0, s1⟩
          go_simp
          with_reducible rfl
        rotate_left
        · simp only [Act.put, List.setIfInBounds_toArray, List.set_cons_zero, List.set_cons_succ, i64_w, i32_w]
          rfl
        refine pure_ (i := 2) (N := some 67) (v := ?_) (a' := ?_) #[true, true, true, false, false, false, false, false] rfl rfl (by kernel_rfl) (fun _ _ _ h => h) (Or.inl ⟨by rfl, ?_⟩) ?_ ?_
        rotate_left
        · intro w'
          go_simp
          with_reducible rfl
        rotate_left
        · simp only [Act.put, List.setIfInBounds_toArray, List.set_cons_zero, List.set_cons_succ, i64_w, i32_w]
          rfl
        refine take_ (i := 3) (N := some 68) (v := ?_) (a' := ?_) #[true, true, true, true, false, false, false, false] rfl rfl (by kernel_rfl) (fun _ _ _ h => h) (Or.inl ⟨by rfl, ?_⟩) hHeld ?_ ?_
        rotate_left
        · rintro w' ⟨s0, s1⟩
          go_simp
          with_reducible rfl
        rotate_left
        · simp only [Act.put, List.setIfInBounds_toArray, List.set_cons_zero, List.set_cons_succ, i64_w, i32_w]
          rfl
        refine pure_ (i := 4) (N := some 69) (v := ?_) (a' := ?_) #[true, true, true, true, true, false, false, false] rfl rfl (by kernel_rfl) (fun _ _ _ h => h) (Or.inl ⟨by rfl, ?_⟩) ?_ ?_
        rotate_left
        · intro w'
          go_simp
          with_reducible rfl
        rotate_left
        · simp only [Act.put, List.setIfInBounds_toArray, List.set_cons_zero, List.set_cons_succ, i64_w, i32_w]
          rfl
        have hx2 : w1.cell? ⟨g5, 2, none⟩ = some (.int .i64 0) := (blk_cell S1.out.bo 2).trans rfl
        have hf2 := blk_frozen S1.out.bo 2
        refine one_ (i := 5) (N := none) #[true, true, true, true, true, true, false, false] rfl rfl (by kernel_rfl) (by decide) (fun K hK => ?_)
        refine skip_ (w1 := w1.setCell ⟨g5, 2, none⟩ (.int .i64 a1_2)) (by rfl) rfl ?_ ?_
        · first | (go_simp; done) | (go_simp; rfl)
        have S2 := Aside0.mk (impl_joined.St.on5 S1.out GS.out ((On.refl g5 w1).set 2 (.int .i64 a1_2)) (blk_put S1.out.bo 2 (.int .i64 a1_2) rfl) : impl_joined.St w (w1.setCell ⟨g5, 2, none⟩ (.int .i64 a1_2)) g2 g3 g4 g5 #[.int .i64 a0_0, .int .i64 a0_1, .int .i64 a0_2, .int .i64 a0_3, .slice A0_4 l0_4.length c0_4, .bool false] #[.int .i64 a1_0, .int .i64 a1_1, .int .i64 a1_2, .int .i64 a1_3, .slice A1_4 l1_4.length c1_4, .bool a1_5] (.int .i64 cc) (.int .i64 0) (.int .i64 a1_2) (.int .i64 0) (.slice (some ⟨go, 0, none⟩) y0.length co) Hp F)
        generalize w1.setCell ⟨g5, 2, none⟩ (.int .i64 a1_2) = w2 at S2 ⊢
        refine hK.out _ _ ⟨(blk_cell S2.out.bb 2).trans rfl, (blk_cell S2.out.bb 3).trans rfl⟩ (fun hHeld => ?_)
        clear hK K hx2 hf2 S1
        refine pure_ (i := 6) (N := some 70) (v := ?_) (a' := ?_) #[true, true, true, true, true, true, true, false] rfl rfl (by kernel_rfl) (fun _ _ _ h => h) (Or.inl ⟨by rfl, ?_⟩) ?_ ?_
        rotate_left
        · intro w'
          go_simp
          with_reducible rfl
        rotate_left
        · simp only [Act.put, List.setIfInBounds_toArray, List.set_cons_zero, List.set_cons_succ, i64_w, i32_w]
          rfl
        have hx3 : w2.cell? ⟨g5, 3, none⟩ = some (.int .i64 0) := (blk_cell S2.out.bo 3).trans rfl
        have hf3 := blk_frozen S2.out.bo 3
        refine last_ (i := 7) (N := none) #[true, true, true, true, true, true, true, true] rfl rfl (by kernel_rfl) (by decide) (fun K hK => ?_)
        refine skip_ (w1 := ?_) (by rfl) rfl ?_ ?_
        rotate_left
        · go_simp
          rfl
        refine hK.out _ _ ?_
        clear hK K
        refine done_ (by kernel_rfl) ?_
        have S3 := Aside0.mk (impl_joined.St.on5 S2.out GS.out ((On.refl g5 w2).set 3 (.int .i64 a1_3)) (blk_put S2.out.bo 3 (.int .i64 a1_3) rfl) : impl_joined.St w (w2.setCell ⟨g5, 3, none⟩ (.int .i64 a1_3)) g2 g3 g4 g5 #[.int .i64 a0_0, .int .i64 a0_1, .int .i64 a0_2, .int .i64 a0_3, .slice A0_4 l0_4.length c0_4, .bool false] #[.int .i64 a1_0, .int .i64 a1_1, .int .i64 a1_2, .int .i64 a1_3, .slice A1_4 l1_4.length c1_4, .bool a1_5] (.int .i64 cc) (.int .i64 0) (.int .i64 a1_2) (.int .i64 a1_3) (.slice (some ⟨go, 0, none⟩) y0.length co) Hp F)
        generalize w2.setCell ⟨g5, 3, none⟩ (.int .i64 a1_3) = w3 at S3 ⊢
        clear hHeld hx3 hf3 S2
        cases F with
        | true =>
          obtain rfl : S = 0 := HS.out
          have hq0 : w3.cell? ⟨g5, 0, none⟩ = some (.int .i64 cc) := (blk_cell S3.out.bo 0).trans rfl
          have hq1 : w3.cell? ⟨g5, 1, none⟩ = some (.int .i64 0) := (blk_cell S3.out.bo 1).trans rfl
          have hq2 : w3.cell? ⟨g5, 2, none⟩ = some (.int .i64 a1_2) := (blk_cell S3.out.bo 2).trans rfl
          have hq3 : w3.cell? ⟨g5, 3, none⟩ = some (.int .i64 a1_3) := (blk_cell S3.out.bo 3).trans rfl
          have hq4 : w3.cell? ⟨g5, 4, none⟩ = some (.slice (some ⟨go, 0, none⟩) y0.length co) := (blk_cell S3.out.bo 4).trans rfl
          have hq5 : w3.cell? ⟨g5, 5, none⟩ = some (.bool true) := (blk_cell S3.out.bo 5).trans rfl
          have hz0 : w3.cell? ⟨g4, 0, none⟩ = some (.int .i64 0) := (blk_cell S3.out.bz 0).trans rfl
          have hz1 : w3.cell? ⟨g4, 1, none⟩ = some (.int .i64 0) := (blk_cell S3.out.bz 1).trans rfl
          have hz2 : w3.cell? ⟨g4, 2, none⟩ = some (.int .i64 0) := (blk_cell S3.out.bz 2).trans rfl
          have hz3 : w3.cell? ⟨g4, 3, none⟩ = some (.int .i64 0) := (blk_cell S3.out.bz 3).trans rfl
          have hz4 : w3.cell? ⟨g4, 4, none⟩ = some (.slice none 0 0) := (blk_cell S3.out.bz 4).trans rfl
          have hz5 : w3.cell? ⟨g4, 5, none⟩ = some (.bool false) := (blk_cell S3.out.bz 5).trans rfl
          have hf0 := blk_frozen S3.out.bz 0
          have hf1 := blk_frozen S3.out.bz 1
          have hf2 := blk_frozen S3.out.bz 2
          have hf3 := blk_frozen S3.out.bz 3
          have hf4 := blk_frozen S3.out.bz 4
          have hf5 := blk_frozen S3.out.bz 5
          go_wp2_with ((with_reducible refine gate_store (t := 26) (p := 4) rfl ?_); refine store_event (t := 26) (p := 4) (v := ?vo_9032) (w1 := setAll w3 g4 0 [.int .i64 cc, .int .i64 0, .int .i64 a1_2, .int .i64 a1_3, .slice (some ⟨go, 0, none⟩) y0.length co, .bool true]) ?hg ?ho ?hn ?hr ?_; (case ho => rfl); (case hg => rfl); (case hn => rfl); (case hr => first | (go_simp; done) | (go_simp; rfl)); intro w9 hw; have ON9 := Aside0.mk ((by rw [hw]; exact setAll_on _ _ _ _) : On g4 w3 w9); have BZ9 := Aside0.mk ((by rw [hw]; exact setAll_blk _ S3.out.bz rfl) : w9.heap[g4]? = some (.cells #[.int .i64 cc, .int .i64 0, .int .i64 a1_2, .int .i64 a1_3, .slice (some ⟨go, 0, none⟩) y0.length co, .bool true] 26 (0, 0))); clear hw)
          refine bodyPost_ret (results_cell_row rfl _ _ g4 26 #[.int .i64 cc, .int .i64 0, .int .i64 a1_2, .int .i64 a1_3, .slice (some ⟨go, 0, none⟩) y0.length co, .bool true] (0, 0) _ rfl (by (with_reducible repeat (first | refine blk_drewN ?_ _ | refine blk_drew ?_)); exact BZ9.out) Try.underlying26 rfl (by kernel_rfl)) rfl ?_
          exact ⟨_, rfl, by (with_reducible repeat (first | apply Kd.R_alloc | apply Kd.R_drewN | apply Kd.R_drew)); exact ON9.out.Rt S3.out.row S3.out.bz (by decide), by repeat (first | exact ON9.out.below S3.out.bel GS.out.m4 | apply below_alloc | apply pw_below_drewN | apply below_drew1)⟩
        | false =>
          obtain rfl : S = a0_1 + a1_1 := HS.out
          have hq5 : w3.cell? ⟨g5, 5, none⟩ = some (.bool false) := (blk_cell S3.out.bo 5).trans rfl
          have hs0 : w3.cell? ⟨g2, 1, none⟩ = some (.int .i64 a0_1) := (blk_cell S3.out.ba 1).trans rfl
          have hs1 : w3.cell? ⟨g3, 1, none⟩ = some (.int .i64 a1_1) := (blk_cell S3.out.bb 1).trans rfl
          have hs2 : w3.cell? ⟨g5, 1, none⟩ = some (.int .i64 0) := (blk_cell S3.out.bo 1).trans rfl
          have hs3 := blk_frozen S3.out.bo 1
          go_wp2_with (first | ((with_reducible refine gate_store (t := 3) (p := 89) rfl ?_); refine store_event (t := 3) (p := 89) (v := ?vo_9033) (w1 := w3.setCell ⟨g5, 1, none⟩ (.int .i64 (a0_1 + a1_1))) ?hg ?ho ?hn ?hr ?_; (case ho => rfl); (case hg => rfl); (case hn => rfl); (case hr => first | (go_simp; done) | (go_simp; rfl)); intro w4 hw; have S4 := Aside0.mk ((by rw [hw]; exact S3.out.on5 GS.out ((On.refl _ _).set 1 _) (blk_put S3.out.bo 1 _ rfl)) : impl_joined.St w w4 g2 g3 g4 g5 #[.int .i64 a0_0, .int .i64 a0_1, .int .i64 a0_2, .int .i64 a0_3, .slice A0_4 l0_4.length c0_4, .bool false] #[.int .i64 a1_0, .int .i64 a1_1, .int .i64 a1_2, .int .i64 a1_3, .slice A1_4 l1_4.length c1_4, .bool a1_5] (.int .i64 cc) (.int .i64 (a0_1 + a1_1)) (.int .i64 a1_2) (.int .i64 a1_3) (.slice (some ⟨go, 0, none⟩) y0.length co) Hp false); clear hw hq5 hs0 hs1 hs2 hs3; have hq0 : w4.cell? ⟨g5, 0, none⟩ = some (.int .i64 cc) := (blk_cell S4.out.bo 0).trans rfl; have hq1 : w4.cell? ⟨g5, 1, none⟩ = some (.int .i64 (a0_1 + a1_1)) := (blk_cell S4.out.bo 1).trans rfl; have hq2 : w4.cell? ⟨g5, 2, none⟩ = some (.int .i64 a1_2) := (blk_cell S4.out.bo 2).trans rfl; have hq3 : w4.cell? ⟨g5, 3, none⟩ = some (.int .i64 a1_3) := (blk_cell S4.out.bo 3).trans rfl; have hq4 : w4.cell? ⟨g5, 4, none⟩ = some (.slice (some ⟨go, 0, none⟩) y0.length co) := (blk_cell S4.out.bo 4).trans rfl; have hq5 : w4.cell? ⟨g5, 5, none⟩ = some (.bool false) := (blk_cell S4.out.bo 5).trans rfl; have hz0 : w4.cell? ⟨g4, 0, none⟩ = some (.int .i64 0) := (blk_cell S4.out.bz 0).trans rfl; have hz1 : w4.cell? ⟨g4, 1, none⟩ = some (.int .i64 0) := (blk_cell S4.out.bz 1).trans rfl; have hz2 : w4.cell? ⟨g4, 2, none⟩ = some (.int .i64 0) := (blk_cell S4.out.bz 2).trans rfl; have hz3 : w4.cell? ⟨g4, 3, none⟩ = some (.int .i64 0) := (blk_cell S4.out.bz 3).trans rfl; have hz4 : w4.cell? ⟨g4, 4, none⟩ = some (.slice none 0 0) := (blk_cell S4.out.bz 4).trans rfl; have hz5 : w4.cell? ⟨g4, 5, none⟩ = some (.bool false) := (blk_cell S4.out.bz 5).trans rfl; have hf0 := blk_frozen S4.out.bz 0; have hf1 := blk_frozen S4.out.bz 1; have hf2 := blk_frozen S4.out.bz 2; have hf3 := blk_frozen S4.out.bz 3; have hf4 := blk_frozen S4.out.bz 4; have hf5 := blk_frozen S4.out.bz 5) | ((with_reducible refine gate_store (t := 26) (p := 4) rfl ?_); refine store_event (t := 26) (p := 4) (v := ?vo_9034) (w1 := setAll w4 g4 0 [.int .i64 cc, .int .i64 (a0_1 + a1_1), .int .i64 a1_2, .int .i64 a1_3, .slice (some ⟨go, 0, none⟩) y0.length co, .bool false]) ?hg ?ho ?hn ?hr ?_; (case ho => rfl); (case hg => rfl); (case hn => rfl); (case hr => first | (go_simp; done) | (go_simp; rfl)); intro w9 hw; have ON9 := Aside0.mk ((by rw [hw]; exact setAll_on _ _ _ _) : On g4 w4 w9); have BZ9 := Aside0.mk ((by rw [hw]; exact setAll_blk _ S4.out.bz rfl) : w9.heap[g4]? = some (.cells #[.int .i64 cc, .int .i64 (a0_1 + a1_1), .int .i64 a1_2, .int .i64 a1_3, .slice (some ⟨go, 0, none⟩) y0.length co, .bool false] 26 (0, 0))); clear hw))
          refine bodyPost_ret (results_cell_row rfl _ _ g4 26 #[.int .i64 cc, .int .i64 (a0_1 + a1_1), .int .i64 a1_2, .int .i64 a1_3, .slice (some ⟨go, 0, none⟩) y0.length co, .bool false] (0, 0) _ rfl (by (with_reducible repeat (first | refine blk_drewN ?_ _ | refine blk_drew ?_)); exact BZ9.out) Try.underlying26 rfl (by kernel_rfl)) rfl ?_
          exact ⟨_, rfl, by (with_reducible repeat (first | apply Kd.R_alloc | apply Kd.R_drewN | apply Kd.R_drew)); exact ON9.out.Rt S4.out.row S4.out.bz (by decide), by repeat (first | exact ON9.out.below S4.out.bel GS.out.m4 | apply below_alloc | apply pw_below_drewN | apply below_drew1)⟩
      · have HM := Aside0.mk (HM.out.trans (if_neg ha))
        have HX := Aside0.mk (HX.out.trans (if_neg ha))
        have hta : (a0_0 == 0) = false := by simp [ha]
        clear ha
        by_cases hb : a1_0 = 0
        · have HM := Aside0.mk (HM.out.trans (if_pos hb))
          have HX := Aside0.mk (HX.out.trans (if_pos hb))
          have htb : (a1_0 == 0) = true := by simp [hb]
          clear hb
          have hm0 : wr.cell? ⟨g2, 0, none⟩ = some (.int .i64 a0_0) := (blk_cell ST2.out.ba 0).trans rfl
          have hm1 : wr.cell? ⟨g3, 0, none⟩ = some (.int .i64 a1_0) := (blk_cell ST2.out.bb 0).trans rfl
          go_wp2
          clear hm0 hm1
          have S1 := Aside0.mk (impl_joined.St.drew ST2.out)
          obtain rfl : a0_2 = M := HM.out.symm
          obtain rfl : a0_3 = X := HX.out.symm
          refine start_ (n := 8) (S := fun w' => w'.cell? ⟨g2, 2, none⟩ = some (.int .i64 a0_2) ∧ w'.cell? ⟨g2, 3, none⟩ = some (.int .i64 a0_3)) (ds := [7]) #[false, false, false, false, false, false, false, false] (by kernel_rfl) rfl rfl ⟨(blk_cell S1.out.ba 2).trans rfl, (blk_cell S1.out.ba 3).trans rfl⟩ (fun hHeld => ?_)
          generalize wr.drew = w1 at S1 hHeld ⊢
          refine pure_ (i := 0) (N := some 75) (v := ?_) (a' := ?_) #[true, false, false, false, false, false, false, false] rfl rfl (by kernel_rfl) (fun _ _ _ h => h) (Or.inl ⟨by rfl, ?_⟩) ?_ ?_
          rotate_left
          · intro w'
            go_simp
            with_reducible rfl
          rotate_left
          · simp only [Act.put, List.setIfInBounds_toArray, List.set_cons_zero, List.set_cons_succ, i64_w, i32_w]
            rfl
          refine take_ (i := 1) (N := some 76) (v := ?_) (a' := ?_) #[true, true, false, false, false, false, false, false] rfl rfl (by kernel_rfl) (fun _ _ _ h => h) (Or.inl ⟨by rfl, ?_⟩) hHeld ?_ ?_
          rotate_left
          · rintro w' ⟨s0, s1⟩
            go_simp
            with_reducible rfl
          rotate_left
          · simp only [Act.put, List.setIfInBounds_toArray, List.set_cons_zero, List.set_cons_succ, i64_w, i32_w]
            rfl
          refine pure_ (i := 2) (N := some 77) (v := ?_) (a' := ?_) #[true, true, true, false, false, false, false, false] rfl rfl (by kernel_rfl) (fun _ _ _ h => h) (Or.inl ⟨by rfl, ?_⟩) ?_ ?_
          rotate_left
          · intro w'
            go_simp
            with_reducible rfl
          rotate_left
          · simp only [Act.put, List.setIfInBounds_toArray, List.set_cons_zero, List.set_cons_succ, i64_w, i32_w]
            rfl
          refine take_ (i := 3) (N := some 78) (v := ?_) (a' := ?_) #[true, true, true, true, false, false, false, false] rfl rfl (by kernel_rfl) (fun _ _ _ h => h) (Or.inl ⟨by rfl, ?_⟩) hHeld ?_ ?_
          rotate_left
          · rintro w' ⟨s0, s1⟩
            go_simp
            with_reducible rfl
          rotate_left
          · simp only [Act.put, List.setIfInBounds_toArray, List.set_cons_zero, List.set_cons_succ, i64_w, i32_w]
            rfl
          refine pure_ (i := 4) (N := some 79) (v := ?_) (a' := ?_) #[true, true, true, true, true, false, false, false] rfl rfl (by kernel_rfl) (fun _ _ _ h => h) (Or.inl ⟨by rfl, ?_⟩) ?_ ?_
          rotate_left
          · intro w'
            go_simp
            with_reducible rfl
          rotate_left
          · simp only [Act.put, List.setIfInBounds_toArray, List.set_cons_zero, List.set_cons_succ, i64_w, i32_w]
            rfl
          have hx2 : w1.cell? ⟨g5, 2, none⟩ = some (.int .i64 0) := (blk_cell S1.out.bo 2).trans rfl
          have hf2 := blk_frozen S1.out.bo 2
          refine one_ (i := 5) (N := none) #[true, true, true, true, true, true, false, false] rfl rfl (by kernel_rfl) (by decide) (fun K hK => ?_)
          refine skip_ (w1 := w1.setCell ⟨g5, 2, none⟩ (.int .i64 a0_2)) (by rfl) rfl ?_ ?_
          · first | (go_simp; done) | (go_simp; rfl)
          have S2 := Aside0.mk (impl_joined.St.on5 S1.out GS.out ((On.refl g5 w1).set 2 (.int .i64 a0_2)) (blk_put S1.out.bo 2 (.int .i64 a0_2) rfl) : impl_joined.St w (w1.setCell ⟨g5, 2, none⟩ (.int .i64 a0_2)) g2 g3 g4 g5 #[.int .i64 a0_0, .int .i64 a0_1, .int .i64 a0_2, .int .i64 a0_3, .slice A0_4 l0_4.length c0_4, .bool false] #[.int .i64 a1_0, .int .i64 a1_1, .int .i64 a1_2, .int .i64 a1_3, .slice A1_4 l1_4.length c1_4, .bool a1_5] (.int .i64 cc) (.int .i64 0) (.int .i64 a0_2) (.int .i64 0) (.slice (some ⟨go, 0, none⟩) y0.length co) Hp F)
          generalize w1.setCell ⟨g5, 2, none⟩ (.int .i64 a0_2) = w2 at S2 ⊢
          refine hK.out _ _ ⟨(blk_cell S2.out.ba 2).trans rfl, (blk_cell S2.out.ba 3).trans rfl⟩ (fun hHeld => ?_)
          clear hK K hx2 hf2 S1
          refine pure_ (i := 6) (N := some 80) (v := ?_) (a' := ?_) #[true, true, true, true, true, true, true, false] rfl rfl (by kernel_rfl) (fun _ _ _ h => h) (Or.inl ⟨by rfl, ?_⟩) ?_ ?_
          rotate_left
          · intro w'
            go_simp
            with_reducible rfl
          rotate_left
          · simp only [Act.put, List.setIfInBounds_toArray, List.set_cons_zero, List.set_cons_succ, i64_w, i32_w]
            rfl
          have hx3 : w2.cell? ⟨g5, 3, none⟩ = some (.int .i64 0) := (blk_cell S2.out.bo 3).trans rfl
          have hf3 := blk_frozen S2.out.bo 3
          refine last_ (i := 7) (N := none) #[true, true, true, true, true, true, true, true] rfl rfl (by kernel_rfl) (by decide) (fun K hK => ?_)
          refine skip_ (w1 := ?_) (by rfl) rfl ?_ ?_
          rotate_left
          · go_simp
            rfl
          refine hK.out _ _ ?_
          clear hK K
          refine done_ (by kernel_rfl) ?_
          have S3 := Aside0.mk (impl_joined.St.on5 S2.out GS.out ((On.refl g5 w2).set 3 (.int .i64 a0_3)) (blk_put S2.out.bo 3 (.int .i64 a0_3) rfl) : impl_joined.St w (w2.setCell ⟨g5, 3, none⟩ (.int .i64 a0_3)) g2 g3 g4 g5 #[.int .i64 a0_0, .int .i64 a0_1, .int .i64 a0_2, .int .i64 a0_3, .slice A0_4 l0_4.length c0_4, .bool false] #[.int .i64 a1_0, .int .i64 a1_1, .int .i64 a1_2, .int .i64 a1_3, .slice A1_4 l1_4.length c1_4, .bool a1_5] (.int .i64 cc) (.int .i64 0) (.int .i64 a0_2) (.int .i64 a0_3) (.slice (some ⟨go, 0, none⟩) y0.length co) Hp F)
          generalize w2.setCell ⟨g5, 3, none⟩ (.int .i64 a0_3) = w3 at S3 ⊢
          clear hHeld hx3 hf3 S2
          cases F with
          | true =>
            obtain rfl : S = 0 := HS.out
            have hq0 : w3.cell? ⟨g5, 0, none⟩ = some (.int .i64 cc) := (blk_cell S3.out.bo 0).trans rfl
            have hq1 : w3.cell? ⟨g5, 1, none⟩ = some (.int .i64 0) := (blk_cell S3.out.bo 1).trans rfl
            have hq2 : w3.cell? ⟨g5, 2, none⟩ = some (.int .i64 a0_2) := (blk_cell S3.out.bo 2).trans rfl
            have hq3 : w3.cell? ⟨g5, 3, none⟩ = some (.int .i64 a0_3) := (blk_cell S3.out.bo 3).trans rfl
            have hq4 : w3.cell? ⟨g5, 4, none⟩ = some (.slice (some ⟨go, 0, none⟩) y0.length co) := (blk_cell S3.out.bo 4).trans rfl
            have hq5 : w3.cell? ⟨g5, 5, none⟩ = some (.bool true) := (blk_cell S3.out.bo 5).trans rfl
            have hz0 : w3.cell? ⟨g4, 0, none⟩ = some (.int .i64 0) := (blk_cell S3.out.bz 0).trans rfl
            have hz1 : w3.cell? ⟨g4, 1, none⟩ = some (.int .i64 0) := (blk_cell S3.out.bz 1).trans rfl
            have hz2 : w3.cell? ⟨g4, 2, none⟩ = some (.int .i64 0) := (blk_cell S3.out.bz 2).trans rfl
            have hz3 : w3.cell? ⟨g4, 3, none⟩ = some (.int .i64 0) := (blk_cell S3.out.bz 3).trans rfl
            have hz4 : w3.cell? ⟨g4, 4, none⟩ = some (.slice none 0 0) := (blk_cell S3.out.bz 4).trans rfl
            have hz5 : w3.cell? ⟨g4, 5, none⟩ = some (.bool false) := (blk_cell S3.out.bz 5).trans rfl
            have hf0 := blk_frozen S3.out.bz 0
            have hf1 := blk_frozen S3.out.bz 1
            have hf2 := blk_frozen S3.out.bz 2
            have hf3 := blk_frozen S3.out.bz 3
            have hf4 := blk_frozen S3.out.bz 4
            have hf5 := blk_frozen S3.out.bz 5
            go_wp2_with ((with_reducible refine gate_store (t := 26) (p := 4) rfl ?_); refine store_event (t := 26) (p := 4) (v := ?vo_9035) (w1 := setAll w3 g4 0 [.int .i64 cc, .int .i64 0, .int .i64 a0_2, .int .i64 a0_3, .slice (some ⟨go, 0, none⟩) y0.length co, .bool true]) ?hg ?ho ?hn ?hr ?_; (case ho => rfl); (case hg => rfl); (case hn => rfl); (case hr => first | (go_simp; done) | (go_simp; rfl)); intro w9 hw; have ON9 := Aside0.mk ((by rw [hw]; exact setAll_on _ _ _ _) : On g4 w3 w9); have BZ9 := Aside0.mk ((by rw [hw]; exact setAll_blk _ S3.out.bz rfl) : w9.heap[g4]? = some (.cells #[.int .i64 cc, .int .i64 0, .int .i64 a0_2, .int .i64 a0_3, .slice (some ⟨go, 0, none⟩) y0.length co, .bool true] 26 (0, 0))); clear hw)
            refine bodyPost_ret (results_cell_row rfl _ _ g4 26 #[.int .i64 cc, .int .i64 0, .int .i64 a0_2, .int .i64 a0_3, .slice (some ⟨go, 0, none⟩) y0.length co, .bool true] (0, 0) _ rfl (by (with_reducible repeat (first | refine blk_drewN ?_ _ | refine blk_drew ?_)); exact BZ9.out) Try.underlying26 rfl (by kernel_rfl)) rfl ?_
            exact ⟨_, rfl, by (with_reducible repeat (first | apply Kd.R_alloc | apply Kd.R_drewN | apply Kd.R_drew)); exact ON9.out.Rt S3.out.row S3.out.bz (by decide), by repeat (first | exact ON9.out.below S3.out.bel GS.out.m4 | apply below_alloc | apply pw_below_drewN | apply below_drew1)⟩
          | false =>
            obtain rfl : S = a0_1 + a1_1 := HS.out
            have hq5 : w3.cell? ⟨g5, 5, none⟩ = some (.bool false) := (blk_cell S3.out.bo 5).trans rfl
            have hs0 : w3.cell? ⟨g2, 1, none⟩ = some (.int .i64 a0_1) := (blk_cell S3.out.ba 1).trans rfl
            have hs1 : w3.cell? ⟨g3, 1, none⟩ = some (.int .i64 a1_1) := (blk_cell S3.out.bb 1).trans rfl
            have hs2 : w3.cell? ⟨g5, 1, none⟩ = some (.int .i64 0) := (blk_cell S3.out.bo 1).trans rfl
            have hs3 := blk_frozen S3.out.bo 1
            go_wp2_with (first | ((with_reducible refine gate_store (t := 3) (p := 89) rfl ?_); refine store_event (t := 3) (p := 89) (v := ?vo_9036) (w1 := w3.setCell ⟨g5, 1, none⟩ (.int .i64 (a0_1 + a1_1))) ?hg ?ho ?hn ?hr ?_; (case ho => rfl); (case hg => rfl); (case hn => rfl); (case hr => first | (go_simp; done) | (go_simp; rfl)); intro w4 hw; have S4 := Aside0.mk ((by rw [hw]; exact S3.out.on5 GS.out ((On.refl _ _).set 1 _) (blk_put S3.out.bo 1 _ rfl)) : impl_joined.St w w4 g2 g3 g4 g5 #[.int .i64 a0_0, .int .i64 a0_1, .int .i64 a0_2, .int .i64 a0_3, .slice A0_4 l0_4.length c0_4, .bool false] #[.int .i64 a1_0, .int .i64 a1_1, .int .i64 a1_2, .int .i64 a1_3, .slice A1_4 l1_4.length c1_4, .bool a1_5] (.int .i64 cc) (.int .i64 (a0_1 + a1_1)) (.int .i64 a0_2) (.int .i64 a0_3) (.slice (some ⟨go, 0, none⟩) y0.length co) Hp false); clear hw hq5 hs0 hs1 hs2 hs3; have hq0 : w4.cell? ⟨g5, 0, none⟩ = some (.int .i64 cc) := (blk_cell S4.out.bo 0).trans rfl; have hq1 : w4.cell? ⟨g5, 1, none⟩ = some (.int .i64 (a0_1 + a1_1)) := (blk_cell S4.out.bo 1).trans rfl; have hq2 : w4.cell? ⟨g5, 2, none⟩ = some (.int .i64 a0_2) := (blk_cell S4.out.bo 2).trans rfl; have hq3 : w4.cell? ⟨g5, 3, none⟩ = some (.int .i64 a0_3) := (blk_cell S4.out.bo 3).trans rfl; have hq4 : w4.cell? ⟨g5, 4, none⟩ = some (.slice (some ⟨go, 0, none⟩) y0.length co) := (blk_cell S4.out.bo 4).trans rfl; have hq5 : w4.cell? ⟨g5, 5, none⟩ = some (.bool false) := (blk_cell S4.out.bo 5).trans rfl; have hz0 : w4.cell? ⟨g4, 0, none⟩ = some (.int .i64 0) := (blk_cell S4.out.bz 0).trans rfl; have hz1 : w4.cell? ⟨g4, 1, none⟩ = some (.int .i64 0) := (blk_cell S4.out.bz 1).trans rfl; have hz2 : w4.cell? ⟨g4, 2, none⟩ = some (.int .i64 0) := (blk_cell S4.out.bz 2).trans rfl; have hz3 : w4.cell? ⟨g4, 3, none⟩ = some (.int .i64 0) := (blk_cell S4.out.bz 3).trans rfl; have hz4 : w4.cell? ⟨g4, 4, none⟩ = some (.slice none 0 0) := (blk_cell S4.out.bz 4).trans rfl; have hz5 : w4.cell? ⟨g4, 5, none⟩ = some (.bool false) := (blk_cell S4.out.bz 5).trans rfl; have hf0 := blk_frozen S4.out.bz 0; have hf1 := blk_frozen S4.out.bz 1; have hf2 := blk_frozen S4.out.bz 2; have hf3 := blk_frozen S4.out.bz 3; have hf4 := blk_frozen S4.out.bz 4; have hf5 := blk_frozen S4.out.bz 5) | ((with_reducible refine gate_store (t := 26) (p := 4) rfl ?_); refine store_event (t := 26) (p := 4) (v := ?vo_9037) (w1 := setAll w4 g4 0 [.int .i64 cc, .int .i64 (a0_1 + a1_1), .int .i64 a0_2, .int .i64 a0_3, .slice (some ⟨go, 0, none⟩) y0.length co, .bool false]) ?hg ?ho ?hn ?hr ?_; (case ho => rfl); (case hg => rfl); (case hn => rfl); (case hr => first | (go_simp; done) | (go_simp; rfl)); intro w9 hw; have ON9 := Aside0.mk ((by rw [hw]; exact setAll_on _ _ _ _) : On g4 w4 w9); have BZ9 := Aside0.mk ((by rw [hw]; exact setAll_blk _ S4.out.bz rfl) : w9.heap[g4]? = some (.cells #[.int .i64 cc, .int .i64 (a0_1 + a1_1), .int .i64 a0_2, .int .i64 a0_3, .slice (some ⟨go, 0, none⟩) y0.length co, .bool false] 26 (0, 0))); clear hw))
            refine bodyPost_ret (results_cell_row rfl _ _ g4 26 #[.int .i64 cc, .int .i64 (a0_1 + a1_1), .int .i64 a0_2, .int .i64 a0_3, .slice (some ⟨go, 0, none⟩) y0.length co, .bool false] (0, 0) _ rfl (by (with_reducible repeat (first | refine blk_drewN ?_ _ | refine blk_drew ?_)); exact BZ9.out) Try.underlying26 rfl (by kernel_rfl)) rfl ?_
            exact ⟨_, rfl, by (with_reducible repeat (first | apply Kd.R_alloc | apply Kd.R_drewN | apply Kd.R_drew)); exact ON9.out.Rt S4.out.row S4.out.bz (by decide), by repeat (first | exact ON9.out.below S4.out.bel GS.out.m4 | apply below_alloc | apply pw_below_drewN | apply below_drew1)⟩
        · have HM := Aside0.mk (HM.out.trans (if_neg hb))
          have HX := Aside0.mk (HX.out.trans (if_neg hb))
          have htb : (a1_0 == 0) = false := by simp [hb]
          clear hb
          have hm0 : wr.cell? ⟨g2, 0, none⟩ = some (.int .i64 a0_0) := (blk_cell ST2.out.ba 0).trans rfl
          have hm1 : wr.cell? ⟨g3, 0, none⟩ = some (.int .i64 a1_0) := (blk_cell ST2.out.bb 0).trans rfl
          go_wp2
          clear hm0 hm1
          have S1 := Aside0.mk (impl_joined.St.drew ST2.out)
          obtain ⟨m', hm'⟩ : ∃ m', mn a0_2 a1_2 = m' := ⟨_, rfl⟩
          obtain ⟨x', hx'⟩ : ∃ x', mx a0_3 a1_3 = x' := ⟨_, rfl⟩
          obtain rfl : m' = M := (HM.out.trans hm').symm
          obtain rfl : x' = X := (HX.out.trans hx').symm
          have hmin : (if a1_2 < a0_2 then a1_2 else a0_2) = m' := hm'
          have hmax : (if a0_3 < a1_3 then a1_3 else a0_3) = x' := hx'
          refine start_ (n := 14) (S := fun w' => w'.cell? ⟨g2, 2, none⟩ = some (.int .i64 a0_2) ∧ w'.cell? ⟨g3, 2, none⟩ = some (.int .i64 a1_2) ∧ w'.cell? ⟨g2, 3, none⟩ = some (.int .i64 a0_3) ∧ w'.cell? ⟨g3, 3, none⟩ = some (.int .i64 a1_3)) (ds := [13]) #[false, false, false, false, false, false, false, false, false, false, false, false, false, false] (by kernel_rfl) rfl rfl ⟨(blk_cell S1.out.ba 2).trans rfl, (blk_cell S1.out.bb 2).trans rfl, (blk_cell S1.out.ba 3).trans rfl, (blk_cell S1.out.bb 3).trans rfl⟩ (fun hHeld => ?_)
          generalize wr.drew = w1 at S1 hHeld ⊢
          refine pure_ (i := 0) (N := some 49) (v := ?_) (a' := ?_) #[true, false, false, false, false, false, false, false, false, false, false, false, false, false] rfl rfl (by kernel_rfl) (fun _ _ _ h => h) (Or.inl ⟨by rfl, ?_⟩) ?_ ?_
          rotate_left
          · intro w'
            go_simp
            with_reducible rfl
          rotate_left
          · simp only [Act.put, List.setIfInBounds_toArray, List.set_cons_zero, List.set_cons_succ, i64_w, i32_w]
            rfl
          refine take_ (i := 1) (N := some 50) (v := ?_) (a' := ?_) #[true, true, false, false, false, false, false, false, false, false, false, false, false, false] rfl rfl (by kernel_rfl) (fun _ _ _ h => h) (Or.inl ⟨by rfl, ?_⟩) hHeld ?_ ?_
          rotate_left
          · rintro w' ⟨s0, s1, s2, s3⟩
            go_simp
            with_reducible rfl
          rotate_left
          · simp only [Act.put, List.setIfInBounds_toArray, List.set_cons_zero, List.set_cons_succ, i64_w, i32_w]
            rfl
          refine pure_ (i := 2) (N := some 51) (v := ?_) (a' := ?_) #[true, true, true, false, false, false, false, false, false, false, false, false, false, false] rfl rfl (by kernel_rfl) (fun _ _ _ h => h) (Or.inl ⟨by rfl, ?_⟩) ?_ ?_
          rotate_left
          · intro w'
            go_simp
            with_reducible rfl
          rotate_left
          · simp only [Act.put, List.setIfInBounds_toArray, List.set_cons_zero, List.set_cons_succ, i64_w, i32_w]
            rfl
          refine take_ (i := 3) (N := some 52) (v := ?_) (a' := ?_) #[true, true, true, true, false, false, false, false, false, false, false, false, false, false] rfl rfl (by kernel_rfl) (fun _ _ _ h => h) (Or.inl ⟨by rfl, ?_⟩) hHeld ?_ ?_
          rotate_left
          · rintro w' ⟨s0, s1, s2, s3⟩
            go_simp
            with_reducible rfl
          rotate_left
          · simp only [Act.put, List.setIfInBounds_toArray, List.set_cons_zero, List.set_cons_succ, i64_w, i32_w]
            rfl
          refine pure_ (i := 4) (N := some 53) (v := ?_) (a' := ?_) #[true, true, true, true, true, false, false, false, false, false, false, false, false, false] rfl rfl (by kernel_rfl) (fun _ _ _ h => h) (Or.inl ⟨by rfl, ?_⟩) ?_ ?_
          rotate_left
          · intro w'
            go_simp
            with_reducible rfl
          rotate_left
          · simp only [Act.put, List.setIfInBounds_toArray, List.set_cons_zero, List.set_cons_succ, i64_w, i32_w]
            rfl
          refine pure_ (i := 5) (N := some 54) (v := ?_) (a' := ?_) #[true, true, true, true, true, true, false, false, false, false, false, false, false, false] rfl rfl (by kernel_rfl) (fun _ _ _ h => h) (Or.inl ⟨by rfl, ?_⟩) ?_ ?_
          rotate_left
          · intro w'
            go_simp
            with_reducible rfl
          rotate_left
          · simp only [Act.put, List.setIfInBounds_toArray, List.set_cons_zero, List.set_cons_succ, i64_w, i32_w]
            rfl
          refine take_ (i := 6) (N := some 55) (v := ?_) (a' := ?_) #[true, true, true, true, true, true, true, false, false, false, false, false, false, false] rfl rfl (by kernel_rfl) (fun _ _ _ h => h) (Or.inl ⟨by rfl, ?_⟩) hHeld ?_ ?_
          rotate_left
          · rintro w' ⟨s0, s1, s2, s3⟩
            go_simp
            with_reducible rfl
          rotate_left
          · simp only [Act.put, List.setIfInBounds_toArray, List.set_cons_zero, List.set_cons_succ, i64_w, i32_w]
            rfl
          refine pure_ (i := 7) (N := some 56) (v := ?_) (a' := ?_) #[true, true, true, true, true, true, true, true, false, false, false, false, false, false] rfl rfl (by kernel_rfl) (fun _ _ _ h => h) (Or.inl ⟨by rfl, ?_⟩) ?_ ?_
          rotate_left
          · intro w'
            go_simp
            with_reducible rfl
          rotate_left
          · simp only [Act.put, List.setIfInBounds_toArray, List.set_cons_zero, List.set_cons_succ, i64_w, i32_w]
            rfl
          refine take_ (i := 8) (N := some 57) (v := ?_) (a' := ?_) #[true, true, true, true, true, true, true, true, true, false, false, false, false, false] rfl rfl (by kernel_rfl) (fun _ _ _ h => h) (Or.inl ⟨by rfl, ?_⟩) hHeld ?_ ?_
          rotate_left
          · rintro w' ⟨s0, s1, s2, s3⟩
            go_simp
            with_reducible rfl
          rotate_left
          · simp only [Act.put, List.setIfInBounds_toArray, List.set_cons_zero, List.set_cons_succ, i64_w, i32_w]
            rfl
          refine pure_ (i := 9) (N := some 58) (v := ?_) (a' := ?_) #[true, true, true, true, true, true, true, true, true, true, false, false, false, false] rfl rfl (by kernel_rfl) (fun _ _ _ h => h) (Or.inl ⟨by rfl, ?_⟩) ?_ ?_
          rotate_left
          · intro w'
            go_simp
            with_reducible rfl
          rotate_left
          · simp only [Act.put, List.setIfInBounds_toArray, List.set_cons_zero, List.set_cons_succ, i64_w, i32_w]
            rfl
          refine pure_ (i := 10) (N := some 59) (v := ?_) (a' := ?_) #[true, true, true, true, true, true, true, true, true, true, true, false, false, false] rfl rfl (by kernel_rfl) (fun _ _ _ h => h) (Or.inl ⟨by rfl, ?_⟩) ?_ ?_
          rotate_left
          · intro w'
            go_simp
            with_reducible rfl
          rotate_left
          · simp only [Act.put, List.setIfInBounds_toArray, List.set_cons_zero, List.set_cons_succ, i64_w, i32_w]
            rfl
          have hx2 : w1.cell? ⟨g5, 2, none⟩ = some (.int .i64 0) := (blk_cell S1.out.bo 2).trans rfl
          have hf2 := blk_frozen S1.out.bo 2
          refine one_ (i := 11) (N := none) #[true, true, true, true, true, true, true, true, true, true, true, true, false, false] rfl rfl (by kernel_rfl) (by decide) (fun K hK => ?_)
          refine skip_ (w1 := w1.setCell ⟨g5, 2, none⟩ (.int .i64 m')) (by rfl) rfl ?_ ?_
          · first | (go_simp; done) | (go_simp; rfl)
          have S2 := Aside0.mk (impl_joined.St.on5 S1.out GS.out ((On.refl g5 w1).set 2 (.int .i64 m')) (blk_put S1.out.bo 2 (.int .i64 m') rfl) : impl_joined.St w (w1.setCell ⟨g5, 2, none⟩ (.int .i64 m')) g2 g3 g4 g5 #[.int .i64 a0_0, .int .i64 a0_1, .int .i64 a0_2, .int .i64 a0_3, .slice A0_4 l0_4.length c0_4, .bool false] #[.int .i64 a1_0, .int .i64 a1_1, .int .i64 a1_2, .int .i64 a1_3, .slice A1_4 l1_4.length c1_4, .bool a1_5] (.int .i64 cc) (.int .i64 0) (.int .i64 m') (.int .i64 0) (.slice (some ⟨go, 0, none⟩) y0.length co) Hp F)
          generalize w1.setCell ⟨g5, 2, none⟩ (.int .i64 m') = w2 at S2 ⊢
          refine hK.out _ _ ⟨(blk_cell S2.out.ba 2).trans rfl, (blk_cell S2.out.bb 2).trans rfl, (blk_cell S2.out.ba 3).trans rfl, (blk_cell S2.out.bb 3).trans rfl⟩ (fun hHeld => ?_)
          clear hK K hx2 hf2 S1
          refine pure_ (i := 12) (N := some 60) (v := ?_) (a' := ?_) #[true, true, true, true, true, true, true, true, true, true, true, true, true, false] rfl rfl (by kernel_rfl) (fun _ _ _ h => h) (Or.inl ⟨by rfl, ?_⟩) ?_ ?_
          rotate_left
          · intro w'
            go_simp
            with_reducible rfl
          rotate_left
          · simp only [Act.put, List.setIfInBounds_toArray, List.set_cons_zero, List.set_cons_succ, i64_w, i32_w]
            rfl
          have hx3 : w2.cell? ⟨g5, 3, none⟩ = some (.int .i64 0) := (blk_cell S2.out.bo 3).trans rfl
          have hf3 := blk_frozen S2.out.bo 3
          refine last_ (i := 13) (N := none) #[true, true, true, true, true, true, true, true, true, true, true, true, true, true] rfl rfl (by kernel_rfl) (by decide) (fun K hK => ?_)
          refine skip_ (w1 := ?_) (by rfl) rfl ?_ ?_
          rotate_left
          · go_simp
            rfl
          refine hK.out _ _ ?_
          clear hK K
          refine done_ (by kernel_rfl) ?_
          have S3 := Aside0.mk (impl_joined.St.on5 S2.out GS.out ((On.refl g5 w2).set 3 (.int .i64 x')) (blk_put S2.out.bo 3 (.int .i64 x') rfl) : impl_joined.St w (w2.setCell ⟨g5, 3, none⟩ (.int .i64 x')) g2 g3 g4 g5 #[.int .i64 a0_0, .int .i64 a0_1, .int .i64 a0_2, .int .i64 a0_3, .slice A0_4 l0_4.length c0_4, .bool false] #[.int .i64 a1_0, .int .i64 a1_1, .int .i64 a1_2, .int .i64 a1_3, .slice A1_4 l1_4.length c1_4, .bool a1_5] (.int .i64 cc) (.int .i64 0) (.int .i64 m') (.int .i64 x') (.slice (some ⟨go, 0, none⟩) y0.length co) Hp F)
          generalize w2.setCell ⟨g5, 3, none⟩ (.int .i64 x') = w3 at S3 ⊢
          clear hHeld hx3 hf3 S2
          cases F with
          | true =>
            obtain rfl : S = 0 := HS.out
            have hq0 : w3.cell? ⟨g5, 0, none⟩ = some (.int .i64 cc) := (blk_cell S3.out.bo 0).trans rfl
            have hq1 : w3.cell? ⟨g5, 1, none⟩ = some (.int .i64 0) := (blk_cell S3.out.bo 1).trans rfl
            have hq2 : w3.cell? ⟨g5, 2, none⟩ = some (.int .i64 m') := (blk_cell S3.out.bo 2).trans rfl
            have hq3 : w3.cell? ⟨g5, 3, none⟩ = some (.int .i64 x') := (blk_cell S3.out.bo 3).trans rfl
            have hq4 : w3.cell? ⟨g5, 4, none⟩ = some (.slice (some ⟨go, 0, none⟩) y0.length co) := (blk_cell S3.out.bo 4).trans rfl
            have hq5 : w3.cell? ⟨g5, 5, none⟩ = some (.bool true) := (blk_cell S3.out.bo 5).trans rfl
            have hz0 : w3.cell? ⟨g4, 0, none⟩ = some (.int .i64 0) := (blk_cell S3.out.bz 0).trans rfl
            have hz1 : w3.cell? ⟨g4, 1, none⟩ = some (.int .i64 0) := (blk_cell S3.out.bz 1).trans rfl
            have hz2 : w3.cell? ⟨g4, 2, none⟩ = some (.int .i64 0) := (blk_cell S3.out.bz 2).trans rfl
            have hz3 : w3.cell? ⟨g4, 3, none⟩ = some (.int .i64 0) := (blk_cell S3.out.bz 3).trans rfl
            have hz4 : w3.cell? ⟨g4, 4, none⟩ = some (.slice none 0 0) := (blk_cell S3.out.bz 4).trans rfl
            have hz5 : w3.cell? ⟨g4, 5, none⟩ = some (.bool false) := (blk_cell S3.out.bz 5).trans rfl
            have hf0 := blk_frozen S3.out.bz 0
            have hf1 := blk_frozen S3.out.bz 1
            have hf2 := blk_frozen S3.out.bz 2
            have hf3 := blk_frozen S3.out.bz 3
            have hf4 := blk_frozen S3.out.bz 4
            have hf5 := blk_frozen S3.out.bz 5
            go_wp2_with ((with_reducible refine gate_store (t := 26) (p := 4) rfl ?_); refine store_event (t := 26) (p := 4) (v := ?vo_9038) (w1 := setAll w3 g4 0 [.int .i64 cc, .int .i64 0, .int .i64 m', .int .i64 x', .slice (some ⟨go, 0, none⟩) y0.length co, .bool true]) ?hg ?ho ?hn ?hr ?_; (case ho => rfl); (case hg => rfl); (case hn => rfl); (case hr => first | (go_simp; done) | (go_simp; rfl)); intro w9 hw; have ON9 := Aside0.mk ((by rw [hw]; exact setAll_on _ _ _ _) : On g4 w3 w9); have BZ9 := Aside0.mk ((by rw [hw]; exact setAll_blk _ S3.out.bz rfl) : w9.heap[g4]? = some (.cells #[.int .i64 cc, .int .i64 0, .int .i64 m', .int .i64 x', .slice (some ⟨go, 0, none⟩) y0.length co, .bool true] 26 (0, 0))); clear hw)
            refine bodyPost_ret (results_cell_row rfl _ _ g4 26 #[.int .i64 cc, .int .i64 0, .int .i64 m', .int .i64 x', .slice (some ⟨go, 0, none⟩) y0.length co, .bool true] (0, 0) _ rfl (by (with_reducible repeat (first | refine blk_drewN ?_ _ | refine blk_drew ?_)); exact BZ9.out) Try.underlying26 rfl (by kernel_rfl)) rfl ?_
            exact ⟨_, rfl, by (with_reducible repeat (first | apply Kd.R_alloc | apply Kd.R_drewN | apply Kd.R_drew)); exact ON9.out.Rt S3.out.row S3.out.bz (by decide), by repeat (first | exact ON9.out.below S3.out.bel GS.out.m4 | apply below_alloc | apply pw_below_drewN | apply below_drew1)⟩
          | false =>
            obtain rfl : S = a0_1 + a1_1 := HS.out
            have hq5 : w3.cell? ⟨g5, 5, none⟩ = some (.bool false) := (blk_cell S3.out.bo 5).trans rfl
            have hs0 : w3.cell? ⟨g2, 1, none⟩ = some (.int .i64 a0_1) := (blk_cell S3.out.ba 1).trans rfl
            have hs1 : w3.cell? ⟨g3, 1, none⟩ = some (.int .i64 a1_1) := (blk_cell S3.out.bb 1).trans rfl
            have hs2 : w3.cell? ⟨g5, 1, none⟩ = some (.int .i64 0) := (blk_cell S3.out.bo 1).trans rfl
            have hs3 := blk_frozen S3.out.bo 1
            go_wp2_with (first | ((with_reducible refine gate_store (t := 3) (p := 89) rfl ?_); refine store_event (t := 3) (p := 89) (v := ?vo_9039) (w1 := w3.setCell ⟨g5, 1, none⟩ (.int .i64 (a0_1 + a1_1))) ?hg ?ho ?hn ?hr ?_; (case ho => rfl); (case hg => rfl); (case hn => rfl); (case hr => first | (go_simp; done) | (go_simp; rfl)); intro w4 hw; have S4 := Aside0.mk ((by rw [hw]; exact S3.out.on5 GS.out ((On.refl _ _).set 1 _) (blk_put S3.out.bo 1 _ rfl)) : impl_joined.St w w4 g2 g3 g4 g5 #[.int .i64 a0_0, .int .i64 a0_1, .int .i64 a0_2, .int .i64 a0_3, .slice A0_4 l0_4.length c0_4, .bool false] #[.int .i64 a1_0, .int .i64 a1_1, .int .i64 a1_2, .int .i64 a1_3, .slice A1_4 l1_4.length c1_4, .bool a1_5] (.int .i64 cc) (.int .i64 (a0_1 + a1_1)) (.int .i64 m') (.int .i64 x') (.slice (some ⟨go, 0, none⟩) y0.length co) Hp false); clear hw hq5 hs0 hs1 hs2 hs3; have hq0 : w4.cell? ⟨g5, 0, none⟩ = some (.int .i64 cc) := (blk_cell S4.out.bo 0).trans rfl; have hq1 : w4.cell? ⟨g5, 1, none⟩ = some (.int .i64 (a0_1 + a1_1)) := (blk_cell S4.out.bo 1).trans rfl; have hq2 : w4.cell? ⟨g5, 2, none⟩ = some (.int .i64 m') := (blk_cell S4.out.bo 2).trans rfl; have hq3 : w4.cell? ⟨g5, 3, none⟩ = some (.int .i64 x') := (blk_cell S4.out.bo 3).trans rfl; have hq4 : w4.cell? ⟨g5, 4, none⟩ = some (.slice (some ⟨go, 0, none⟩) y0.length co) := (blk_cell S4.out.bo 4).trans rfl; have hq5 : w4.cell? ⟨g5, 5, none⟩ = some (.bool false) := (blk_cell S4.out.bo 5).trans rfl; have hz0 : w4.cell? ⟨g4, 0, none⟩ = some (.int .i64 0) := (blk_cell S4.out.bz 0).trans rfl; have hz1 : w4.cell? ⟨g4, 1, none⟩ = some (.int .i64 0) := (blk_cell S4.out.bz 1).trans rfl; have hz2 : w4.cell? ⟨g4, 2, none⟩ = some (.int .i64 0) := (blk_cell S4.out.bz 2).trans rfl; have hz3 : w4.cell? ⟨g4, 3, none⟩ = some (.int .i64 0) := (blk_cell S4.out.bz 3).trans rfl; have hz4 : w4.cell? ⟨g4, 4, none⟩ = some (.slice none 0 0) := (blk_cell S4.out.bz 4).trans rfl; have hz5 : w4.cell? ⟨g4, 5, none⟩ = some (.bool false) := (blk_cell S4.out.bz 5).trans rfl; have hf0 := blk_frozen S4.out.bz 0; have hf1 := blk_frozen S4.out.bz 1; have hf2 := blk_frozen S4.out.bz 2; have hf3 := blk_frozen S4.out.bz 3; have hf4 := blk_frozen S4.out.bz 4; have hf5 := blk_frozen S4.out.bz 5) | ((with_reducible refine gate_store (t := 26) (p := 4) rfl ?_); refine store_event (t := 26) (p := 4) (v := ?vo_9040) (w1 := setAll w4 g4 0 [.int .i64 cc, .int .i64 (a0_1 + a1_1), .int .i64 m', .int .i64 x', .slice (some ⟨go, 0, none⟩) y0.length co, .bool false]) ?hg ?ho ?hn ?hr ?_; (case ho => rfl); (case hg => rfl); (case hn => rfl); (case hr => first | (go_simp; done) | (go_simp; rfl)); intro w9 hw; have ON9 := Aside0.mk ((by rw [hw]; exact setAll_on _ _ _ _) : On g4 w4 w9); have BZ9 := Aside0.mk ((by rw [hw]; exact setAll_blk _ S4.out.bz rfl) : w9.heap[g4]? = some (.cells #[.int .i64 cc, .int .i64 (a0_1 + a1_1), .int .i64 m', .int .i64 x', .slice (some ⟨go, 0, none⟩) y0.length co, .bool false] 26 (0, 0))); clear hw))
            refine bodyPost_ret (results_cell_row rfl _ _ g4 26 #[.int .i64 cc, .int .i64 (a0_1 + a1_1), .int .i64 m', .int .i64 x', .slice (some ⟨go, 0, none⟩) y0.length co, .bool false] (0, 0) _ rfl (by (with_reducible repeat (first | refine blk_drewN ?_ _ | refine blk_drew ?_)); exact BZ9.out) Try.underlying26 rfl (by kernel_rfl)) rfl ?_
            exact ⟨_, rfl, by (with_reducible repeat (first | apply Kd.R_alloc | apply Kd.R_drewN | apply Kd.R_drew)); exact ON9.out.Rt S4.out.row S4.out.bz (by decide), by repeat (first | exact ON9.out.below S4.out.bel GS.out.m4 | apply below_alloc | apply pw_below_drewN | apply below_drew1)⟩
theorem impl_joined.calls (a0_0 : Int) (a0_1 : Int) (a0_2 : Int) (a0_3 : Int) (A0_4 : Option Addr) (c0_4 : Nat) (l0_4 : List Int) (a0_5 : Bool) (a1_0 : Int) (a1_1 : Int) (a1_2 : Int) (a1_3 : Int) (A1_4 : Option Addr) (c1_4 : Nat) (l1_4 : List Int) (a1_5 : Bool) (r1 : Int) (r2 : Int) (r3 : Int) (r4 : Int) (r5 : List Int) (r6 : Bool) (w : World) (hr0_4 : Kd.C (Kd.int .i64) w A0_4 l0_4.length l0_4) (hc0_4 : l0_4.length ≤ c0_4) (hr1_4 : Kd.C (Kd.int .i64) w A1_4 l1_4.length l1_4) (hc1_4 : l1_4.length ≤ c1_4) (h : impl_joined.f a0_0 a0_1 a0_2 a0_3 l0_4 a0_5 a1_0 a1_1 a1_2 a1_3 l1_4 a1_5 = some (r1, r2, r3, r4, r5, r6)) :
    Calls Try.prog 22 #[.agg #[.int .i64 a0_0, .int .i64 a0_1, .int .i64 a0_2, .int .i64 a0_3, .slice A0_4 l0_4.length c0_4, .bool a0_5], .agg #[.int .i64 a1_0, .int .i64 a1_1, .int .i64 a1_2, .int .i64 a1_3, .slice A1_4 l1_4.length c1_4, .bool a1_5]] w fun e w' => ∃ v4_ : Value, e = .returned (.agg #[.int .i64 r1, .int .i64 r2, .int .i64 r3, .int .i64 r4, v4_, .bool r6]) ∧ Kd.R (Kd.int .i64) 3 w' w.heap.size (fun _ => True) v4_ r5 ∧ Below w.heap.size w w' := by
  unfold impl_joined.f at h
  by_cases hok : (impl_joined.ok a0_0 a0_1 l0_4 && impl_joined.ok a1_0 a1_1 l1_4) = true
  · rw [if_pos hok] at h
    simp only [Option.some.injEq, Prod.mk.injEq] at h
    obtain ⟨rfl, rfl, rfl, rfl, rfl, rfl⟩ := h
    rw [Bool.and_eq_true] at hok
    cases a0_5 with
    | true => exact impl_joined.calls_true a0_0 a0_1 a0_2 a0_3 A0_4 c0_4 l0_4 a1_0 a1_1 a1_2 a1_3 A1_4 c1_4 l1_4 a1_5 _ _ _ _ _ _ _ w hr0_4 hc0_4 hr1_4 hc1_4 hok.1 hok.2 rfl rfl rfl rfl rfl
    | false => exact impl_joined.calls_false a0_0 a0_1 a0_2 a0_3 A0_4 c0_4 l0_4 a1_0 a1_1 a1_2 a1_3 A1_4 c1_4 l1_4 a1_5 _ _ _ _ _ _ _ w hr0_4 hc0_4 hr1_4 hc1_4 hok.1 hok.2 rfl rfl rfl rfl rfl
  · rw [if_neg hok] at h
    cases h

end Go.Proofs.Ytncnfkcnimfbmaa.PFnExactJoinAggs
