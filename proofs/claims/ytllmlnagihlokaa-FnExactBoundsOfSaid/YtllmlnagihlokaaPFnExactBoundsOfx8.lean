-- Written by a program of this session.
import Derived.Test.YtllmlnagihlokaaPFnExactBoundsOfx0
import Derived.Test.YtllmlnagihlokaaPFnExactBoundsOfx2
import Derived.Test.YtllmlnagihlokaaPFnExactBoundsOfx7
namespace Go.Proofs.Ytllmlnagihlokaa.PFnExactBoundsOf
open Go.RowKit Go.Proofs.YtllmlnagihlokaaW.PrintWords Go.Proofs.YtllmlnagihlokaaW.PrintLast Go.Proofs.YtllmlnagihlokaaW.PrintMore
attribute [local go_sem] max2_int min2_int max_two min_two max_three min_three max_four min_four hw_string_geq hw_string_gtr hw_string_leq
set_option linter.unusedVariables false
set_option linter.unusedSimpArgs false
abbrev bq8_0 : Array Bool := #[false, false, false, false, false, false, false, false, false, false, false, false, false, false, false, false, false, false, false, false, false, false, false]
abbrev bq8_19 : Array Bool := #[true, true, true, true, true, true, true, true, true, true, true, true, true, true, true, false, true, true, true, true, false, false, false]
abbrev bq8_20 : Array Bool := #[true, true, true, true, true, true, true, true, true, true, true, true, false, true, true, false, true, true, true, true, false, true, false]
abbrev bq8_21 : Array Bool := #[true, true, true, true, true, true, true, true, true, true, true, true, true, true, true, true, true, true, true, true, false, false, false]
abbrev bq8_22 : Array Bool := #[true, true, true, true, true, true, true, true, true, true, true, true, true, true, true, false, true, true, true, true, false, true, false]
abbrev bq8_25 : Array Bool := #[true, true, true, true, true, true, true, true, true, true, true, true, true, true, true, true, true, true, true, true, true, true, true]
/-! ### spec_ReadAgg: function 87, by hand -/
/-- a number out of its code -/
def spec_ReadAgg.zig (x : Int) : Int := if (x.tmod 2 == 1) = true then wrap64 (wrap64 (-(wrap64 (IntKind.u64.wrap (x.tdiv 2)))) - 1) else wrap64 (IntKind.u64.wrap (x.tdiv 2))
def spec_ReadAgg.l (k : Nat) (l0 : List Int) : Nat → List Int → Int → Option (Option (List Int × Int))
 | 0, acc, a => some (some (acc, a))
 | n + 1, acc, at_ => (spec_l1Var.f k l0 at_).bind fun p => if (p.2 == 0) = true then some none else if (decide (p.1 > 4611686018427387904)) = true then some none else spec_ReadAgg.l k l0 n (acc ++ [spec_ReadAgg.zig p.1]) p.2
def spec_ReadAgg.g (k : Nat) (l0 : List Int) (L : List Int × Int) : Option (Int × Int × Int × Int × List Int × Bool × Bool) :=
 if (decide (L.2 < (l0.length : Int))) = true then some (0, 0, 0, 0, [], false, false) else (spec_GoodAgg.f k (rd L.1 0) (rd L.1 1) (rd L.1 2) (rd L.1 3) (L.1.drop 4) (rd l0 0 == 1)).bind fun g => if g = true then some (rd L.1 0, rd L.1 1, rd L.1 2, rd L.1 3, L.1.drop 4, (rd l0 0 == 1), true) else some (0, 0, 0, 0, [], false, false)
def spec_ReadAgg.f (k : Nat) (l0 : List Int) : Option (Int × Int × Int × Int × List Int × Bool × Bool) :=
 if l0.length = 0 then some (0, 0, 0, 0, [], false, false) else if (decide (rd l0 0 > 1)) = true then some (0, 0, 0, 0, [], false, false) else (spec_ReadAgg.l k l0 12 [] 1).bind fun o => o.elim (some (0, 0, 0, 0, [], false, false)) (spec_ReadAgg.g k l0)
/-- what the last region reads -/
abbrev spec_ReadAgg.Ce (go : Nat) (bd : Addr) (acc l0 : List Int) (V : World) : Prop := V.cell? ⟨go, 0, none⟩ = some (.int .i64 (rd acc 0)) ∧ V.cell? ⟨go, 1, none⟩ = some (.int .i64 (rd acc 1)) ∧ V.cell? ⟨go, 2, none⟩ = some (.int .i64 (rd acc 2)) ∧ V.cell? ⟨go, 3, none⟩ = some (.int .i64 (rd acc 3)) ∧ V.cell? bd = some (.int .u8 (rd l0 0))
/-- what is so in the rounds -/
structure spec_ReadAgg.St (w0 W : World) (g2 : Nat) (v : Value) (l : List Int) : Prop where
 br : W.heap[g2]? = some (.cells #[.int .i64 0, .int .i64 0, .int .i64 0, .int .i64 0, .slice none 0 0, .bool false] 49 (0, 0))
 row : Kd.R (Kd.int .i64) 3 W w0.heap.size (fun _ => True) v l
 bel : Below w0.heap.size w0 W
section
variable {w0 W V : World} {g2 : Nat} {v : Value} {l : List Int}
theorem spec_ReadAgg.St.drew (h : spec_ReadAgg.St w0 W g2 v l) : spec_ReadAgg.St w0 W.drew g2 v l := ⟨h.br, Kd.R_drew h.row, below_drew1 h.bel⟩
theorem spec_ReadAgg.St.drewN (h : spec_ReadAgg.St w0 W g2 v l) (n : Nat) : spec_ReadAgg.St w0 (W.drewN n) g2 v l := ⟨h.br, Kd.R_drewN h.row n, pw_below_drewN h.bel n⟩
theorem spec_ReadAgg.St.below (h : spec_ReadAgg.St w0 W g2 v l) (hb : Below W.heap.size W V) : spec_ReadAgg.St w0 V g2 v l := ⟨blk_below h.br hb, Kd.R_below h.row hb, below_step h.bel hb⟩
end
/-- what is so behind the rounds -/
structure spec_ReadAgg.Fi (w0 W : World) (g2 g10 : Nat) (cs : Array Value) (v : Value) (D : List Int) : Prop where
 br : W.heap[g2]? = some (.cells #[.int .i64 0, .int .i64 0, .int .i64 0, .int .i64 0, .slice none 0 0, .bool false] 49 (0, 0))
 bx : W.heap[g10]? = some (.cells cs 49 (0, 0))
 q : Kd.R (Kd.int .i64) 3 W w0.heap.size (fun _ => True) v D
 bel : Below w0.heap.size w0 W
section
variable {w0 W V : World} {g2 g10 : Nat} {cs : Array Value} {v : Value} {D : List Int}
theorem spec_ReadAgg.Fi.drew (h : spec_ReadAgg.Fi w0 W g2 g10 cs v D) : spec_ReadAgg.Fi w0 W.drew g2 g10 cs v D := ⟨h.br, h.bx, Kd.R_drew h.q, below_drew1 h.bel⟩
theorem spec_ReadAgg.Fi.drewN (h : spec_ReadAgg.Fi w0 W g2 g10 cs v D) (n : Nat) : spec_ReadAgg.Fi w0 (W.drewN n) g2 g10 cs v D := ⟨h.br, h.bx, Kd.R_drewN h.q n, pw_below_drewN h.bel n⟩
theorem spec_ReadAgg.Fi.below (h : spec_ReadAgg.Fi w0 W g2 g10 cs v D) (hb : Below W.heap.size W V) : spec_ReadAgg.Fi w0 V g2 g10 cs v D := ⟨blk_below h.br hb, blk_below h.bx hb, Kd.R_below h.q hb, below_step h.bel hb⟩
end
set_option maxHeartbeats 8000000 in
set_option maxRecDepth 100000 in
theorem spec_ReadAgg.calls (k : Nat) (A0 : Option Addr) (c0 : Nat) (l0 : List Int) (r1 : Int) (r2 : Int) (r3 : Int) (r4 : Int) (r5 : List Int) (r6 : Bool) (r7 : Bool) (w : World) (hr0 : Kd.C (Kd.int .u8) w A0 l0.length l0) (hc0 : l0.length ≤ c0) (h : spec_ReadAgg.f k l0 = some (r1, r2, r3, r4, r5, r6, r7)) :
  Calls Try.prog 87 #[.slice A0 l0.length c0] w fun e w' => ∃ v4_ : Value, e = .returned (.tuple #[.agg #[.int .i64 r1, .int .i64 r2, .int .i64 r3, .int .i64 r4, v4_, .bool r6], .bool r7]) ∧ Kd.R (Kd.int .i64) 3 w' w.heap.size (fun _ => True) v4_ r5 ∧ Below w.heap.size w w' := by
 have hu26 := Try.underlying49
 have HR0 := Aside0.mk hr0
 have HC0 := Aside0.mk hc0
 have HB := mK (Below.refl w.heap.size w)
 clear hr0 hc0
 unfold spec_ReadAgg.f at h
 by_cases hz : l0.length = 0
 ·rw [if_pos hz] at h
  simp only [Option.some.injEq, Prod.mk.injEq] at h; obtain ⟨rfl, rfl, rfl, rfl, rfl, rfl, rfl⟩ := h
  have hzb : ((l0.length : Int) == 0) = true := by rw [hz]; rfl
  clear hz
  go_enter Try.func87, Try.ntmps87
  go_wp2_with (first | ((with_reducible refine gate_dst (N := 2) rfl ?_); refine box_event ?hg (N := 2) ?hd (cs := #[.int .i64 0, .int .i64 0, .int .i64 0, .int .i64 0, .slice none 0 0, .bool false]) (t := 49) ?hr ?_; (case hd => rfl); (case hg => rfl); (case hr => first | (go_simp; done) | (go_simp; rfl)); intro g2 hg w2 hbox hb; have GE := mK ((by rw [hg]; exact Nat.le_refl _) : w.heap.size ≤ g2); have B2 := mK (below_step (bL HB.out) hb); have BR := Aside0.mk hbox; clear HB; have HB := B2; have hq6 := c6 BR.out; have hf6 := f6 BR.out; clear B2 hb hbox hg))
  refine bodyPost_ret (results_ct rfl _ _ g2 49 #[.int .i64 0, .int .i64 0, .int .i64 0, .int .i64 0, .slice none 0 0, .bool false] (0, 0) _ rfl (by (with_reducible repeat (first | refine blk_drewN ?_ _ | refine blk_drew ?_)); exact p6 (show _ = some (Obj.cells #[.int .i64 0, .int .i64 0, .int .i64 0, .int .i64 0, .slice none 0 0, .bool false] 49 (0, 0)) from bK BR.out)) Try.underlying49 rfl (by kernel_rfl)) rfl ?_; exact ⟨_, rfl, Kd.R_nil _ _ _ _ _, bL HB.out⟩
 ·rw [if_neg hz] at h
  have hzb : ((l0.length : Int) == 0) = false := by simp only [beq_eq_false_iff_ne]; omega
  have hz0 : 0 < l0.length := Nat.pos_of_ne_zero hz; have HZ0 := Aside0.mk hz0; obtain ⟨bd, eb, hxb0⟩ := Kd.at_int HR0.out (0 : Int) (by omega) (by omega); subst eb; replace hxb0 : w.cell? bd = some (.int .u8 (rd l0 0)) := hxb0; clear hz
  cases hfl : decide (rd l0 0 > 1) with
  | true =>
   rw [hfl, if_pos rfl] at h; simp only [Option.some.injEq, Prod.mk.injEq] at h; obtain ⟨rfl, rfl, rfl, rfl, rfl, rfl, rfl⟩ := h
   go_enter Try.func87, Try.ntmps87
   go_wp2_with (first | ((with_reducible refine gate_dst (N := 2) rfl ?_); refine box_event ?hg (N := 2) ?hd (cs := #[.int .i64 0, .int .i64 0, .int .i64 0, .int .i64 0, .slice none 0 0, .bool false]) (t := 49) ?hr ?_; (case hd => rfl); (case hg => rfl); (case hr => first | (go_simp; done) | (go_simp; rfl)); intro g2 hg w2 hbox hb; have GE := mK ((by rw [hg]; exact Nat.le_refl _) : w.heap.size ≤ g2); have B2 := mK (below_step (bL HB.out) hb); have BR := Aside0.mk hbox; have hxb := (hb.cell (World.block_lt_of_cell? _ _ hxb0)).trans hxb0; clear HB; have HB := B2; have hq6 := c6 BR.out; have hf6 := f6 BR.out; clear B2 hb hbox hg))
   refine bodyPost_ret (results_ct rfl _ _ g2 49 #[.int .i64 0, .int .i64 0, .int .i64 0, .int .i64 0, .slice none 0 0, .bool false] (0, 0) _ rfl (by (with_reducible repeat (first | refine blk_drewN ?_ _ | refine blk_drew ?_)); exact p6 (show _ = some (Obj.cells #[.int .i64 0, .int .i64 0, .int .i64 0, .int .i64 0, .slice none 0 0, .bool false] 49 (0, 0)) from bK BR.out)) Try.underlying49 rfl (by kernel_rfl)) rfl ?_; exact ⟨_, rfl, Kd.R_nil _ _ _ _ _, bL HB.out⟩
  | false =>
   rw [hfl, if_neg (by decide)] at h; replace h := Option.bind_eq_some_iff.mp h; obtain ⟨o, hl, h⟩ := h; have HL := Aside0.mk hl; have H := Aside0.mk h; clear h hl
   go_enter Try.func87, Try.ntmps87
   go_wp2_with (first | ((with_reducible refine gate_dst (N := 2) rfl ?_); refine box_event ?hg (N := 2) ?hd (cs := #[.int .i64 0, .int .i64 0, .int .i64 0, .int .i64 0, .slice none 0 0, .bool false]) (t := 49) ?hr ?_; (case hd => rfl); (case hg => rfl); (case hr => first | (go_simp; done) | (go_simp; rfl)); intro g2 hg w2 hbox hb; have GE := mK ((by rw [hg]; exact Nat.le_refl _) : w.heap.size ≤ g2); have B2 := mK (below_step (bL HB.out) hb); have BR := Aside0.mk hbox; have hxb := (hb.cell (World.block_lt_of_cell? _ _ hxb0)).trans hxb0; clear HB; have HB := B2; have hq6 := c6 BR.out; have hf6 := f6 BR.out; clear B2 hb hbox hg))
   have S := mK (⟨bK BR.out, Kd.R_nil _ _ _ _ _, (bL HB.out)⟩ : spec_ReadAgg.St w _ g2 (.slice none 0 0) []); clear hq6 hf6 BR HB hxb
   go_loopg [4, 5] 12 (fun gg v4 v5 w' => ∃ (kk : Nat) (at_ : Int) (vv : Value) (acc : List Int), kk ≤ 12 ∧ 12 - kk ≤ gg ∧ v4 = vv ∧ v5 = .int .i64 at_ ∧ Aside0 (acc.length = kk) ∧ Aside0 (spec_ReadAgg.l k l0 (12 - kk) acc at_ = some o) ∧ Aside0 (spec_ReadAgg.St w w' g2 vv acc))
   case atStart => exact ⟨0, 1, _, [], Nat.zero_le _, by omega, rfl, rfl, ⟨rfl⟩, HL, ⟨(by with_reducible repeat (first | exact S.out | apply spec_ReadAgg.St.drewN | apply spec_ReadAgg.St.drew))⟩⟩
   case round =>
    clear HL S hxb0; obtain ⟨kk, at_, vv, acc, hkk, hg, rfl, rfl, LA, HL, S⟩ := hrel; obtain ⟨Ao, co, eo⟩ := Kd.R_slice S.out.row; subst eo
    by_cases hlt : kk < 12
    ·have hltz : ((acc.length : Nat) : Int) < 12 := by have := LA.out; omega
     have hl := HL.out; rw [show 12 - kk = (12 - (kk + 1)) + 1 by omega] at hl; simp only [spec_ReadAgg.l] at hl; replace hl := Option.bind_eq_some_iff.mp hl; obtain ⟨⟨x, nx⟩, hv, hl⟩ := hl
     dsimp only at hl
     have HV := Aside0.mk hv; clear hv HL
     cases hnx : (nx == 0) with
     | true =>
      rw [hnx, if_pos rfl] at hl; obtain rfl := Option.some.inj hl; clear hl; have h := H.out; simp only [Option.elim_none, Option.some.injEq, Prod.mk.injEq] at h; obtain ⟨rfl, rfl, rfl, rfl, rfl, rfl, rfl⟩ := h; clear H
      go_wp2_with (first | ((with_reducible refine gate_callee (f := 86) rfl ?_); refine goesL_ (some 25) rfl rfl Try.func86 (by kernel_rfl) rfl #[.slice (some bd) l0.length c0, .int .i64 at_] rfl (by (try simp only [List.map_toArray, List.map_cons, List.map_nil]); first | done | rfl) ?_; (with_reducible refine (spec_l1Var.calls k _ _ l0 at_ x nx _ ?side1 HC0.out HV.out).mono ?_); (case side1 => exact Kd.C_below HR0.out (spec_ReadAgg.St.bel (by with_reducible repeat (first | exact S.out | apply spec_ReadAgg.St.drewN | apply spec_ReadAgg.St.drew)))); rintro e w5 ⟨rfl, hd⟩; refine ⟨_, rfl, ?_⟩; have S5 := mK (spec_ReadAgg.St.below (by with_reducible repeat (first | exact S.out | apply spec_ReadAgg.St.drewN | apply spec_ReadAgg.St.drew)) hd.below); have BR := Aside0.mk S5.out.br; have HB := Aside0.mk S5.out.bel; have hq6 := c6 BR.out; have hf6 := f6 BR.out; clear hd S))
      refine bodyPost_ret (results_ct rfl _ _ g2 49 #[.int .i64 0, .int .i64 0, .int .i64 0, .int .i64 0, .slice none 0 0, .bool false] (0, 0) _ rfl (by (with_reducible repeat (first | refine blk_drewN ?_ _ | refine blk_drew ?_)); exact p6 (show _ = some (Obj.cells #[.int .i64 0, .int .i64 0, .int .i64 0, .int .i64 0, .slice none 0 0, .bool false] 49 (0, 0)) from bK BR.out)) Try.underlying49 rfl (by kernel_rfl)) rfl ?_; exact ⟨_, rfl, Kd.R_nil _ _ _ _ _, bL HB.out⟩
     | false =>
      rw [hnx, if_neg (by decide)] at hl
      cases hbig : decide (x > 4611686018427387904) with
      | true =>
       rw [hbig, if_pos rfl] at hl; obtain rfl := Option.some.inj hl; clear hl; have h := H.out; simp only [Option.elim_none, Option.some.injEq, Prod.mk.injEq] at h; obtain ⟨rfl, rfl, rfl, rfl, rfl, rfl, rfl⟩ := h; clear H
       go_wp2_with (first | ((with_reducible refine gate_callee (f := 86) rfl ?_); refine goesL_ (some 25) rfl rfl Try.func86 (by kernel_rfl) rfl #[.slice (some bd) l0.length c0, .int .i64 at_] rfl (by (try simp only [List.map_toArray, List.map_cons, List.map_nil]); first | done | rfl) ?_; (with_reducible refine (spec_l1Var.calls k _ _ l0 at_ x nx _ ?side1 HC0.out HV.out).mono ?_); (case side1 => exact Kd.C_below HR0.out (spec_ReadAgg.St.bel (by with_reducible repeat (first | exact S.out | apply spec_ReadAgg.St.drewN | apply spec_ReadAgg.St.drew)))); rintro e w5 ⟨rfl, hd⟩; refine ⟨_, rfl, ?_⟩; have S5 := mK (spec_ReadAgg.St.below (by with_reducible repeat (first | exact S.out | apply spec_ReadAgg.St.drewN | apply spec_ReadAgg.St.drew)) hd.below); have BR := Aside0.mk S5.out.br; have HB := Aside0.mk S5.out.bel; have hq6 := c6 BR.out; have hf6 := f6 BR.out; clear hd S))
       refine bodyPost_ret (results_ct rfl _ _ g2 49 #[.int .i64 0, .int .i64 0, .int .i64 0, .int .i64 0, .slice none 0 0, .bool false] (0, 0) _ rfl (by (with_reducible repeat (first | refine blk_drewN ?_ _ | refine blk_drew ?_)); exact p6 (show _ = some (Obj.cells #[.int .i64 0, .int .i64 0, .int .i64 0, .int .i64 0, .slice none 0 0, .bool false] 49 (0, 0)) from bK BR.out)) Try.underlying49 rfl (by kernel_rfl)) rfl ?_; exact ⟨_, rfl, Kd.R_nil _ _ _ _ _, bL HB.out⟩
      | false =>
       rw [hbig, if_neg (by decide)] at hl; have HN2 := Aside0.mk hl; clear hl
       cases hodd : (x.tmod 2 == 1)
       ·have hzig : spec_ReadAgg.zig x = (wrap64 (IntKind.u64.wrap (x.tdiv 2))) := by unfold spec_ReadAgg.zig; rw [hodd]; rfl
        rw [hzig] at HN2; clear hzig; obtain ⟨y6, hy6⟩ : ∃ y : List Int, y = acc ++ [(wrap64 (IntKind.u64.wrap (x.tdiv 2)))] := ⟨_, rfl⟩; rw [← hy6] at HN2; have Ny6 := Aside0.mk hy6; clear hy6
        go_wp2_with (first | ((with_reducible refine gate_callee (f := 86) rfl ?_); refine goesL_ (some 25) rfl rfl Try.func86 (by kernel_rfl) rfl #[.slice (some bd) l0.length c0, .int .i64 at_] rfl (by (try simp only [List.map_toArray, List.map_cons, List.map_nil]); first | done | rfl) ?_; (with_reducible refine (spec_l1Var.calls k _ _ l0 at_ x nx _ ?side1 HC0.out HV.out).mono ?_); (case side1 => exact Kd.C_below HR0.out (spec_ReadAgg.St.bel (by with_reducible repeat (first | exact S.out | apply spec_ReadAgg.St.drewN | apply spec_ReadAgg.St.drew)))); rintro e w5 ⟨rfl, hd⟩; refine ⟨_, rfl, ?_⟩; have S5 := mK (spec_ReadAgg.St.below (by with_reducible repeat (first | exact S.out | apply spec_ReadAgg.St.drewN | apply spec_ReadAgg.St.drew)) hd.below); have BR := Aside0.mk S5.out.br; have HB := Aside0.mk S5.out.bel; have hq6 := c6 BR.out; have hf6 := f6 BR.out; clear hd S) | ((with_reducible refine gate_builtin (b := .append) (xs := #[.tmp 47, .tmp 51]) rfl ?_); at_builtin; refine Kd.R_append (Kd.int .i64) (w0 := w) w.heap.size rfl (.tmp 47) (.tmp 51) 41 3 (.int .i64 0) 8 rfl Try.underlying41 info3 rfl (by decide) (by omega) (.slice Ao acc.length co) acc (wrap64 (IntKind.u64.wrap (x.tdiv 2))) [.int .i64 (wrap64 (IntKind.u64.wrap (x.tdiv 2)))] (fun _ => True) (fun _ => False) rfl rfl ?aP (fun _ hk => hk.elim) ?aF ?aO ?aB ?aS ?aL ?_; (case aP => exact rfl); (case aB => exact (by with_reducible repeat (first | exact S5.out.bel | apply below_alloc | apply pw_below_drewN | apply below_drew1))); (case aF => exact (fun _ _ => trivial)); (case aO => exact (by (with_reducible repeat (first | apply Kd.R_alloc | apply Kd.R_drewN | apply Kd.R_drew)); exact S5.out.row)); (case aS => exact (below_size (by with_reducible repeat (first | exact S5.out.bel | apply below_alloc | apply pw_below_drewN | apply below_drew1)))); (case aL => have := LA.out; omega); intro v6 w6 ho hb hg6 hat; rw [← Ny6.out] at ho; have S6 := mK (⟨blk_grown (g := g2) (bK S5.out.br) hg6 (Kd.R_ne S5.out.row S5.out.br (by decide)), ho, hb⟩ : spec_ReadAgg.St w w6 g2 v6 y6); clear ho hb hg6 hat BR HB hq6 hf6))
        go_roundg (12 - (kk + 1))
        case measure => omega
        case rel => exact ⟨kk + 1, nx, _, y6, by omega, by omega, rfl, rfl, ⟨by rw [Ny6.out, List.length_append, LA.out]; rfl⟩, HN2, ⟨by with_reducible repeat (first | exact S6.out | apply spec_ReadAgg.St.drewN | apply spec_ReadAgg.St.drew)⟩⟩
       ·have hzig : spec_ReadAgg.zig x = (wrap64 (wrap64 (-wrap64 (IntKind.u64.wrap (x.tdiv 2))) - 1)) := by unfold spec_ReadAgg.zig; rw [hodd]; rfl
        rw [hzig] at HN2; clear hzig; obtain ⟨y6, hy6⟩ : ∃ y : List Int, y = acc ++ [(wrap64 (wrap64 (-wrap64 (IntKind.u64.wrap (x.tdiv 2))) - 1))] := ⟨_, rfl⟩; rw [← hy6] at HN2; have Ny6 := Aside0.mk hy6; clear hy6
        go_wp2_with (first | ((with_reducible refine gate_callee (f := 86) rfl ?_); refine goesL_ (some 25) rfl rfl Try.func86 (by kernel_rfl) rfl #[.slice (some bd) l0.length c0, .int .i64 at_] rfl (by (try simp only [List.map_toArray, List.map_cons, List.map_nil]); first | done | rfl) ?_; (with_reducible refine (spec_l1Var.calls k _ _ l0 at_ x nx _ ?side1 HC0.out HV.out).mono ?_); (case side1 => exact Kd.C_below HR0.out (spec_ReadAgg.St.bel (by with_reducible repeat (first | exact S.out | apply spec_ReadAgg.St.drewN | apply spec_ReadAgg.St.drew)))); rintro e w5 ⟨rfl, hd⟩; refine ⟨_, rfl, ?_⟩; have S5 := mK (spec_ReadAgg.St.below (by with_reducible repeat (first | exact S.out | apply spec_ReadAgg.St.drewN | apply spec_ReadAgg.St.drew)) hd.below); have BR := Aside0.mk S5.out.br; have HB := Aside0.mk S5.out.bel; have hq6 := c6 BR.out; have hf6 := f6 BR.out; clear hd S) | ((with_reducible refine gate_builtin (b := .append) (xs := #[.tmp 39, .tmp 45]) rfl ?_); at_builtin; refine Kd.R_append (Kd.int .i64) (w0 := w) w.heap.size rfl (.tmp 39) (.tmp 45) 41 3 (.int .i64 0) 8 rfl Try.underlying41 info3 rfl (by decide) (by omega) (.slice Ao acc.length co) acc (wrap64 (wrap64 (-wrap64 (IntKind.u64.wrap (x.tdiv 2))) - 1)) [.int .i64 (wrap64 (wrap64 (-wrap64 (IntKind.u64.wrap (x.tdiv 2))) - 1))] (fun _ => True) (fun _ => False) rfl rfl ?aP (fun _ hk => hk.elim) ?aF ?aO ?aB ?aS ?aL ?_; (case aP => exact rfl); (case aB => exact (by with_reducible repeat (first | exact S5.out.bel | apply below_alloc | apply pw_below_drewN | apply below_drew1))); (case aF => exact (fun _ _ => trivial)); (case aO => exact (by (with_reducible repeat (first | apply Kd.R_alloc | apply Kd.R_drewN | apply Kd.R_drew)); exact S5.out.row)); (case aS => exact (below_size (by with_reducible repeat (first | exact S5.out.bel | apply below_alloc | apply pw_below_drewN | apply below_drew1)))); (case aL => have := LA.out; omega); intro v6 w6 ho hb hg6 hat; rw [← Ny6.out] at ho; have S6 := mK (⟨blk_grown (g := g2) (bK S5.out.br) hg6 (Kd.R_ne S5.out.row S5.out.br (by decide)), ho, hb⟩ : spec_ReadAgg.St w w6 g2 v6 y6); clear ho hb hg6 hat BR HB hq6 hf6))
        go_roundg (12 - (kk + 1))
        case measure => omega
        case rel => exact ⟨kk + 1, nx, _, y6, by omega, by omega, rfl, rfl, ⟨by rw [Ny6.out, List.length_append, LA.out]; rfl⟩, HN2, ⟨by with_reducible repeat (first | exact S6.out | apply spec_ReadAgg.St.drewN | apply spec_ReadAgg.St.drew)⟩⟩
    ·have hk12 : kk = 12 := by omega
     subst hk12
     have hltz : ¬ ((acc.length : Nat) : Int) < 12 := by have := LA.out; omega
     have hl := HL.out; simp only [Nat.sub_self, spec_ReadAgg.l, Option.some.injEq] at hl; subst hl; have h := H.out; simp only [Option.elim_some] at h; have H2 := Aside0.mk h; clear h H; obtain ⟨go, co', eo, hgb, hgl, _⟩ := Kd.R_form S.out.row (by rw [LA.out]; omega)
     injection eo with ea en ec
     subst ea; subst ec; clear en; have hc := (Kd.R_reads' S.out.row).2.2; have hla := LA.out; obtain ⟨bd', eb, hxb⟩ := Kd.at_int (Kd.C_below HR0.out S.out.bel) (0 : Int) (by omega) (by omega)
     cases eb
     obtain ⟨a0_, e0, hx0⟩ := Kd.at_int hc (0 : Int) (by omega) (by omega)
     cases e0
     obtain ⟨a0_, e0, hx1⟩ := Kd.at_int hc (1 : Int) (by omega) (by omega)
     cases e0
     obtain ⟨a0_, e0, hx2⟩ := Kd.at_int hc (2 : Int) (by omega) (by omega)
     cases e0
     obtain ⟨a0_, e0, hx3⟩ := Kd.at_int hc (3 : Int) (by omega) (by omega)
     cases e0
     have HB9 := mK (show ∀ V, Below wr.heap.size wr V → spec_ReadAgg.Ce go bd acc l0 V from fun V hV => ⟨(hV.cell (World.block_lt_of_cell? _ _ hx0)).trans hx0, (hV.cell (World.block_lt_of_cell? _ _ hx1)).trans hx1, (hV.cell (World.block_lt_of_cell? _ _ hx2)).trans hx2, (hV.cell (World.block_lt_of_cell? _ _ hx3)).trans hx3, (hV.cell (World.block_lt_of_cell? _ _ hxb)).trans hxb⟩)
     have hlz : ((acc.length : Nat) : Int) = 12 := by rw [hla]; rfl
     have hco := (Kd.R_reads' S.out.row).2.1; rw [hla] at hco
     have hcoz : (12 : Int) ≤ (co : Int) := by omega
     have hco4 : ¬ co = 4 := by omega
     clear hx0 hx1 hx2 hx3 hxb hc hla
     go_wp2
     obtain ⟨D, hD⟩ : ∃ y : List Int, y = acc.drop 4 := ⟨_, rfl⟩
     have hDl : acc.length - 4 = D.length := by rw [hD, List.length_drop]
     have S5 := mK (spec_ReadAgg.St.drew S.out); have HB5 := mK (show ∀ V, Below wr.drew.heap.size wr.drew V → spec_ReadAgg.Ce go bd acc l0 V from fun V hV => HB9.out V (below_step (below_drew1 (Below.refl _ _)) hV)); have q5 := Kd.Q_drop (Kd.Q_of_R S5.out.row) (k := 4) (by rw [LA.out]; omega); rw [if_neg hco4, ← hD] at q5; have QC := mK (show ∀ V, Below wr.drew.heap.size wr.drew V → Kd.C (Kd.int .i64) V (some ⟨go, 4, none⟩) (acc.length - 4) D from fun V hV => by have h3 := (Kd.Q_reads' (Kd.Q_below q5 hV)).2.2; rw [hDl]; exact h3)
     have hDs : D.length = 8 := by rw [← hDl, LA.out]
     have LD := Aside0.mk hDs; have hDl' := Aside0.mk hDl; have hDD := Aside0.mk hD; refine start_ (n := 23) (S := spec_ReadAgg.Ce go bd acc l0) (ds := [22]) bq8_0 (by kernel_rfl) rfl rfl (HB5.out _ (Below.refl _ _)) (fun hHeld => ?_); clear HB9 S q5 hDs hDl hD; generalize wr.drew = w5 at S5 HB5 QC hHeld ⊢; refine pu_ 0 53 ?_
     refine pu_ 1 54 ?_
     refine tk_ 2 55 hHeld ?_
     refine pu_ 3 56 ?_
     refine pu_ 4 57 ?_
     refine tk_ 5 58 hHeld ?_
     refine pu_ 6 59 ?_
     refine pu_ 7 60 ?_
     refine tk_ 8 61 hHeld ?_
     refine pu_ 9 62 ?_
     refine pu_ 10 63 ?_
     refine tk_ 11 64 hHeld ?_
     refine pu_ 13 66 ?_
     refine pu_ 14 67 ?_
     refine pu_ 16 69 ?_
     refine pu_ 17 70 ?_
     refine tk_ 18 71 hHeld ?_
     refine pu_ 19 72 ?_
     refine two_ (i := 12) (j := 21) (Ni := some 65) (Nj := some 8) bq8_19 bq8_20 rfl rfl rfl rfl (by kernel_rfl) (by decide) (by decide) (fun K hK => ?_) (fun K hK => ?_)
     ·skip
      refine Kd.R_lit_step (Kd.int .i64) _ 3 (by rfl) (N := 65) rfl (xs := ([] : List Int)) (inner := []) (ok := fun _ => True) (okp := fun _ => True) ?hr6 (Reps.none _ _) (fun _ hk => hk) trivial (Below.refl _ _) (Nat.le_refl _) (by simp) ?_; (case hr6 => first | (go_simp; done) | (go_simp; rfl)); intro v6 w6 ho6 hb6 hg6 hn6; have ww := below_step (Below.refl _ _) hb6; have HO6 := mK (Kd.R_lower (base' := w5.heap.size) ho6 (Nat.le_refl _)); have WW := mK (show Below w5.heap.size w5 w6 from ww); have SZ := mK (show w5.heap.size ≤ w6.heap.size from ww.size); obtain ⟨A6, c6_, e6⟩ := Kd.R_slice ho6; subst e6; clear ho6 hb6 hg6 hn6 ww; refine hK.out _ _ (HB5.out _ WW.out) (fun hHeld => ?_); clear hK K; refine norm_ (a' := ?_) ?_ ?_; rotate_left
      ·show Act.put _ (some 65) _ = _
       simp only [Act.put, sq_a, sq_b, sq_c, i64_w, i32_w]; rfl
      refine two_ (i := 15) (j := 21) (Ni := some 68) (Nj := some 8) bq8_21 bq8_22 rfl rfl rfl rfl (by kernel_rfl) (by decide) (by decide) (fun K hK => ?_) (fun K hK => ?_)
      ·skip
       refine Kd.R_append_rows_step (Kd.int .i64) (w0 := w5) w5.heap.size (by rfl) (.tmp 65) (.tmp 67) 41 3 (.int .i64 0) 8 rfl Try.underlying41 info3 rfl (by decide) (by omega) (.slice A6 ([] : List Int).length c6_) [] D _ _ _ (fun _ => True) (fun _ => False) rfl rfl ?aO ?aR (fun _ _ h => h) (fun _ h => h.elim) ?aF ?aB ?aS ?aL ?_; (case aR => exact QC.out _ WW.out); (case aB => exact WW.out); (case aF => exact (fun _ _ => trivial)); (case aO => exact HO6.out); (case aS => exact WW.out.size); (case aL => have := LD.out; simp only [List.length_nil]; omega); intro v7 w7 ho7 hb7 hg7 hat7; rw [List.nil_append] at ho7; clear WW HO6 SZ; have WW := Aside0.mk hb7; have SZ := mK (show w5.heap.size ≤ w7.heap.size from hb7.size); have HO9 := mK (Kd.R_lower ho7 (below_size S5.out.bel)); obtain ⟨Ah, ch, eh⟩ := Kd.R_slice ho7; subst eh; clear ho7 hb7 hg7 hat7; refine hK.out _ _ (HB5.out _ WW.out) (fun hHeld => ?_); clear hK K; refine norm_ (a' := ?_) ?_ ?_; rotate_left
       ·show Act.put _ (some 68) _ = _
        simp only [Act.put, sq_a, sq_b, sq_c, i64_w, i32_w]; rfl
       refine pu_ 20 73 ?_
       refine on_ 21 8 (fun K hK => ?_); refine box_step (cs := #[.int .i64 0, .int .i64 0, .int .i64 0, .int .i64 0, .slice none 0 0, .bool false]) (t := 49) (by rfl) rfl ?hr9 ?_; (case hr9 => first | (go_simp; done) | (go_simp; rfl)); intro g8 hg8 w8 hbox hb; have BX9 := Aside0.mk hbox; have GX := mK (show w5.heap.size ≤ g8 from (by rw [hg8]; exact SZ.out)); have HO9n := mK (Kd.R_below HO9.out hb); clear HO9; have HO9 := HO9n; clear HO9n; have ww := below_step WW.out hb; clear WW SZ; have WW := mK (show Below w5.heap.size w5 w8 from ww); have SZ := mK (show w5.heap.size ≤ w8.heap.size from ww.size); clear hg8 hbox hb ww; have hq6 := c6 BX9.out; have hf6 := f6 BX9.out; refine hK.out _ _ (HB5.out _ WW.out) (fun hHeld => ?_); clear hK K; refine norm_ (a' := ?_) ?_ ?_; rotate_left
       ·show Act.put _ (some 8) _ = _
        simp only [Act.put, sq_a, sq_b, sq_c, i64_w, i32_w]; rfl
       refine last_ (i := 22) (N := none) bq8_25 rfl rfl (by kernel_rfl) (by decide) (fun K hK => ?_); refine skip_ (w1 := ?_) (by rfl) rfl ?_ ?_; rotate_left; · go_simp; rfl
       refine hK.out _ _ ?_; clear hK K; refine done_ (by kernel_rfl) ?_; clear hHeld hq6 hf6; have S9 := mK (spec_ReadAgg.St.below S5.out WW.out); have on7 := (((((((On.refl g8 w8).set 0 (.int .i64 (rd acc 0))).set 1 (.int .i64 (rd acc 1))).set 2 (.int .i64 (rd acc 2))).set 3 (.int .i64 (rd acc 3))).set 4 (.slice Ah D.length ch)).set 5 (.bool (rd l0 0 == 1))); have bx7 := p6 BX9.out (x0 := .int .i64 (rd acc 0)) (x1 := .int .i64 (rd acc 1)) (x2 := .int .i64 (rd acc 2)) (x3 := .int .i64 (rd acc 3)) (x4 := .slice Ah D.length ch) (x5 := .bool (rd l0 0 == 1)); generalize hw7 : ((((((w8.setCell ⟨g8, 0, none⟩ (.int .i64 (rd acc 0))).setCell ⟨g8, 1, none⟩ (.int .i64 (rd acc 1))).setCell ⟨g8, 2, none⟩ (.int .i64 (rd acc 2))).setCell ⟨g8, 3, none⟩ (.int .i64 (rd acc 3))).setCell ⟨g8, 4, none⟩ (.slice Ah D.length ch)).setCell ⟨g8, 5, none⟩ (.bool (rd l0 0 == 1))) = wz at on7 bx7 ⊢; clear hw7; have F := mK (⟨on7.blk S9.out.br (Nat.ne_of_lt (Nat.lt_of_lt_of_le (blk_lt S5.out.br) GX.out)), bx7, on7.Rt HO9.out BX9.out (by decide), on7.below S9.out.bel (Nat.le_trans (below_size S5.out.bel) GX.out)⟩ : spec_ReadAgg.Fi w wz g2 g8 #[.int .i64 (rd acc 0), .int .i64 (rd acc 1), .int .i64 (rd acc 2), .int .i64 (rd acc 3), .slice Ah D.length ch, .bool (rd l0 0 == 1)] (.slice Ah D.length ch) D); have h := H2.out
       unfold spec_ReadAgg.g at h
       dsimp only at h
       rw [← hDD.out] at h; have hq6 := c6 bx7; clear on7 bx7 S9 S5 HO9 BX9 GX HB5 H2 HZ0 LA hco hcoz hco4 WW QC LD hDl' hDD
       cases hend : decide (at_ < (l0.length : Int)) with
       | true =>
        rw [hend, if_pos rfl] at h; simp only [Option.some.injEq, Prod.mk.injEq] at h; obtain ⟨rfl, rfl, rfl, rfl, rfl, rfl, rfl⟩ := h; have hr6 := c6 F.out.br; have hf6 := f6 F.out.br
        go_wp2
        have BR := Aside0.mk F.out.br; have HB := Aside0.mk F.out.bel; refine bodyPost_ret (results_ct rfl _ _ g2 49 #[.int .i64 0, .int .i64 0, .int .i64 0, .int .i64 0, .slice none 0 0, .bool false] (0, 0) _ rfl (by (with_reducible repeat (first | refine blk_drewN ?_ _ | refine blk_drew ?_)); exact p6 (show _ = some (Obj.cells #[.int .i64 0, .int .i64 0, .int .i64 0, .int .i64 0, .slice none 0 0, .bool false] 49 (0, 0)) from bK BR.out)) Try.underlying49 rfl (by kernel_rfl)) rfl ?_; exact ⟨_, rfl, Kd.R_nil _ _ _ _ _, bL HB.out⟩
       | false =>
        rw [hend, if_neg (by decide)] at h; replace h := Option.bind_eq_some_iff.mp h; obtain ⟨gd, hg1, h⟩ := h; have A1 := Aside0.mk hg1; clear hg1
        cases gd with
        | false =>
         simp only [Bool.false_eq_true, if_false, Option.some.injEq, Prod.mk.injEq] at h; obtain ⟨rfl, rfl, rfl, rfl, rfl, rfl, rfl⟩ := h
         go_wp2_with (first | (go_at_call 64; (with_reducible refine (spec_GoodAgg.calls k _ _ _ _ _ _ D _ false _ ?side1 ?side2 A1.out).mono ?_); (case side1 => exact (Kd.R_reads' (spec_ReadAgg.Fi.q (by with_reducible repeat (first | exact F.out | apply spec_ReadAgg.Fi.drewN | apply spec_ReadAgg.Fi.drew)))).2.2); (case side2 => exact (Kd.R_reads' F.out.q).2.1); rintro e w10 ⟨rfl, hb⟩; have F10 := mK (spec_ReadAgg.Fi.below (by with_reducible repeat (first | exact F.out | apply spec_ReadAgg.Fi.drewN | apply spec_ReadAgg.Fi.drew)) hb); clear F hq6 hb; have F := F10; clear F10; have hq6 := c6 F.out.bx; have hr6 := c6 F.out.br; have hf6 := f6 F.out.br))
         have BR := Aside0.mk F.out.br; have HB := Aside0.mk F.out.bel; refine bodyPost_ret (results_ct rfl _ _ g2 49 #[.int .i64 0, .int .i64 0, .int .i64 0, .int .i64 0, .slice none 0 0, .bool false] (0, 0) _ rfl (by (with_reducible repeat (first | refine blk_drewN ?_ _ | refine blk_drew ?_)); exact p6 (show _ = some (Obj.cells #[.int .i64 0, .int .i64 0, .int .i64 0, .int .i64 0, .slice none 0 0, .bool false] 49 (0, 0)) from bK BR.out)) Try.underlying49 rfl (by kernel_rfl)) rfl ?_; exact ⟨_, rfl, Kd.R_nil _ _ _ _ _, bL HB.out⟩
        | true =>
         simp only [if_true, Option.some.injEq, Prod.mk.injEq] at h; obtain ⟨rfl, rfl, rfl, rfl, rfl, rfl, rfl⟩ := h
         go_wp2_with (first | (go_at_call 64; (with_reducible refine (spec_GoodAgg.calls k _ _ _ _ _ _ D _ true _ ?side1 ?side2 A1.out).mono ?_); (case side1 => exact (Kd.R_reads' (spec_ReadAgg.Fi.q (by with_reducible repeat (first | exact F.out | apply spec_ReadAgg.Fi.drewN | apply spec_ReadAgg.Fi.drew)))).2.2); (case side2 => exact (Kd.R_reads' F.out.q).2.1); rintro e w10 ⟨rfl, hb⟩; have F10 := mK (spec_ReadAgg.Fi.below (by with_reducible repeat (first | exact F.out | apply spec_ReadAgg.Fi.drewN | apply spec_ReadAgg.Fi.drew)) hb); clear F hq6 hb; have F := F10; clear F10; have hq6 := c6 F.out.bx; have hr6 := c6 F.out.br; have hf6 := f6 F.out.br))
         have BR := Aside0.mk F.out.br; have HB := Aside0.mk F.out.bel; refine bodyPost_ret (results_ct rfl _ _ g2 49 #[.int .i64 (rd acc 0), .int .i64 (rd acc 1), .int .i64 (rd acc 2), .int .i64 (rd acc 3), .slice Ah D.length ch, .bool (rd l0 0 == 1)] (0, 0) _ rfl (by (with_reducible repeat (first | refine blk_drewN ?_ _ | refine blk_drew ?_)); exact p6 (show _ = some (Obj.cells #[.int .i64 0, .int .i64 0, .int .i64 0, .int .i64 0, .slice none 0 0, .bool false] 49 (0, 0)) from bK BR.out)) Try.underlying49 rfl (by kernel_rfl)) rfl ?_
         have on8 := fun (W : World) (hW : Kd.R (Kd.int .i64) 3 W w.heap.size (fun _ => True) (.slice Ah D.length ch) D) (hb : W.heap[g2]? = some (.cells #[.int .i64 0, .int .i64 0, .int .i64 0, .int .i64 0, .slice none 0 0, .bool false] 49 (0, 0))) => On.Rt (((((((On.refl g2 W).set 0 (.int .i64 (rd acc 0))).set 1 (.int .i64 (rd acc 1))).set 2 (.int .i64 (rd acc 2))).set 3 (.int .i64 (rd acc 3))).set 4 (.slice Ah D.length ch)).set 5 (.bool (rd l0 0 == 1))) hW hb (by decide)
         exact ⟨_, rfl, by (with_reducible repeat (first | apply Kd.R_drewN | apply Kd.R_drew)); exact on8 _ (spec_ReadAgg.Fi.q (by with_reducible repeat (first | exact F.out | apply spec_ReadAgg.Fi.drewN | apply spec_ReadAgg.Fi.drew))) (spec_ReadAgg.Fi.br (by with_reducible repeat (first | exact F.out | apply spec_ReadAgg.Fi.drewN | apply spec_ReadAgg.Fi.drew))), bL HB.out⟩
      ·skip
       refine box_step (cs := #[.int .i64 0, .int .i64 0, .int .i64 0, .int .i64 0, .slice none 0 0, .bool false]) (t := 49) (by rfl) rfl ?hr9 ?_; (case hr9 => first | (go_simp; done) | (go_simp; rfl)); intro g8 hg8 w7 hbox hb; have BX9 := Aside0.mk hbox; have GX := mK (show w5.heap.size ≤ g8 from (by rw [hg8]; exact SZ.out)); have HO6n := mK (Kd.R_below HO6.out hb); clear HO6; have HO6 := HO6n; clear HO6n; have ww := below_step WW.out hb; clear WW SZ; have WW := mK (show Below w5.heap.size w5 w7 from ww); have SZ := mK (show w5.heap.size ≤ w7.heap.size from ww.size); clear hg8 hbox hb ww; refine hK.out _ _ (HB5.out _ WW.out) (fun hHeld => ?_); clear hK K; refine norm_ (a' := ?_) ?_ ?_; rotate_left
       ·show Act.put _ (some 8) _ = _
        simp only [Act.put, sq_a, sq_b, sq_c, i64_w, i32_w]; rfl
       refine on_ 15 68 (fun K hK => ?_); refine Kd.R_append_rows_step (Kd.int .i64) (w0 := w5) w5.heap.size (by rfl) (.tmp 65) (.tmp 67) 41 3 (.int .i64 0) 8 rfl Try.underlying41 info3 rfl (by decide) (by omega) (.slice A6 ([] : List Int).length c6_) [] D _ _ _ (fun _ => True) (fun _ => False) rfl rfl ?aO ?aR (fun _ _ h => h) (fun _ h => h.elim) ?aF ?aB ?aS ?aL ?_; (case aR => exact QC.out _ WW.out); (case aB => exact WW.out); (case aF => exact (fun _ _ => trivial)); (case aO => exact HO6.out); (case aS => exact WW.out.size); (case aL => have := LD.out; simp only [List.length_nil]; omega); intro v7 w8 ho7 hb7 hg7 hat7; rw [List.nil_append] at ho7; have BX9n := mK (blk_grown (g := g8) BX9.out hg7 (Kd.R_ne HO6.out BX9.out (by decide))); clear BX9; have BX9 := BX9n; clear BX9n; clear WW HO6 SZ; have WW := Aside0.mk hb7; have SZ := mK (show w5.heap.size ≤ w8.heap.size from hb7.size); have HO9 := mK (Kd.R_lower ho7 (below_size S5.out.bel)); obtain ⟨Ah, ch, eh⟩ := Kd.R_slice ho7; subst eh; clear ho7 hb7 hg7 hat7; have hq6 := c6 BX9.out; have hf6 := f6 BX9.out; refine hK.out _ _ (HB5.out _ WW.out) (fun hHeld => ?_); clear hK K; refine norm_ (a' := ?_) ?_ ?_; rotate_left
       ·show Act.put _ (some 68) _ = _
        simp only [Act.put, sq_a, sq_b, sq_c, i64_w, i32_w]; rfl
       refine pu_ 20 73 ?_
       refine last_ (i := 22) (N := none) bq8_25 rfl rfl (by kernel_rfl) (by decide) (fun K hK => ?_); refine skip_ (w1 := ?_) (by rfl) rfl ?_ ?_; rotate_left; · go_simp; rfl
       refine hK.out _ _ ?_; clear hK K; refine done_ (by kernel_rfl) ?_; clear hHeld hq6 hf6; have S9 := mK (spec_ReadAgg.St.below S5.out WW.out); have on7 := (((((((On.refl g8 w8).set 0 (.int .i64 (rd acc 0))).set 1 (.int .i64 (rd acc 1))).set 2 (.int .i64 (rd acc 2))).set 3 (.int .i64 (rd acc 3))).set 4 (.slice Ah D.length ch)).set 5 (.bool (rd l0 0 == 1))); have bx7 := p6 BX9.out (x0 := .int .i64 (rd acc 0)) (x1 := .int .i64 (rd acc 1)) (x2 := .int .i64 (rd acc 2)) (x3 := .int .i64 (rd acc 3)) (x4 := .slice Ah D.length ch) (x5 := .bool (rd l0 0 == 1)); generalize hw7 : ((((((w8.setCell ⟨g8, 0, none⟩ (.int .i64 (rd acc 0))).setCell ⟨g8, 1, none⟩ (.int .i64 (rd acc 1))).setCell ⟨g8, 2, none⟩ (.int .i64 (rd acc 2))).setCell ⟨g8, 3, none⟩ (.int .i64 (rd acc 3))).setCell ⟨g8, 4, none⟩ (.slice Ah D.length ch)).setCell ⟨g8, 5, none⟩ (.bool (rd l0 0 == 1))) = wz at on7 bx7 ⊢; clear hw7; have F := mK (⟨on7.blk S9.out.br (Nat.ne_of_lt (Nat.lt_of_lt_of_le (blk_lt S5.out.br) GX.out)), bx7, on7.Rt HO9.out BX9.out (by decide), on7.below S9.out.bel (Nat.le_trans (below_size S5.out.bel) GX.out)⟩ : spec_ReadAgg.Fi w wz g2 g8 #[.int .i64 (rd acc 0), .int .i64 (rd acc 1), .int .i64 (rd acc 2), .int .i64 (rd acc 3), .slice Ah D.length ch, .bool (rd l0 0 == 1)] (.slice Ah D.length ch) D); have h := H2.out
       unfold spec_ReadAgg.g at h
       dsimp only at h
       rw [← hDD.out] at h; have hq6 := c6 bx7; clear on7 bx7 S9 S5 HO9 BX9 GX HB5 H2 HZ0 LA hco hcoz hco4 WW QC LD hDl' hDD
       cases hend : decide (at_ < (l0.length : Int)) with
       | true =>
        rw [hend, if_pos rfl] at h; simp only [Option.some.injEq, Prod.mk.injEq] at h; obtain ⟨rfl, rfl, rfl, rfl, rfl, rfl, rfl⟩ := h; have hr6 := c6 F.out.br; have hf6 := f6 F.out.br
        go_wp2
        have BR := Aside0.mk F.out.br; have HB := Aside0.mk F.out.bel; refine bodyPost_ret (results_ct rfl _ _ g2 49 #[.int .i64 0, .int .i64 0, .int .i64 0, .int .i64 0, .slice none 0 0, .bool false] (0, 0) _ rfl (by (with_reducible repeat (first | refine blk_drewN ?_ _ | refine blk_drew ?_)); exact p6 (show _ = some (Obj.cells #[.int .i64 0, .int .i64 0, .int .i64 0, .int .i64 0, .slice none 0 0, .bool false] 49 (0, 0)) from bK BR.out)) Try.underlying49 rfl (by kernel_rfl)) rfl ?_; exact ⟨_, rfl, Kd.R_nil _ _ _ _ _, bL HB.out⟩
       | false =>
        rw [hend, if_neg (by decide)] at h; replace h := Option.bind_eq_some_iff.mp h; obtain ⟨gd, hg1, h⟩ := h; have A1 := Aside0.mk hg1; clear hg1
        cases gd with
        | false =>
         simp only [Bool.false_eq_true, if_false, Option.some.injEq, Prod.mk.injEq] at h; obtain ⟨rfl, rfl, rfl, rfl, rfl, rfl, rfl⟩ := h
         go_wp2_with (first | (go_at_call 64; (with_reducible refine (spec_GoodAgg.calls k _ _ _ _ _ _ D _ false _ ?side1 ?side2 A1.out).mono ?_); (case side1 => exact (Kd.R_reads' (spec_ReadAgg.Fi.q (by with_reducible repeat (first | exact F.out | apply spec_ReadAgg.Fi.drewN | apply spec_ReadAgg.Fi.drew)))).2.2); (case side2 => exact (Kd.R_reads' F.out.q).2.1); rintro e w10 ⟨rfl, hb⟩; have F10 := mK (spec_ReadAgg.Fi.below (by with_reducible repeat (first | exact F.out | apply spec_ReadAgg.Fi.drewN | apply spec_ReadAgg.Fi.drew)) hb); clear F hq6 hb; have F := F10; clear F10; have hq6 := c6 F.out.bx; have hr6 := c6 F.out.br; have hf6 := f6 F.out.br))
         have BR := Aside0.mk F.out.br; have HB := Aside0.mk F.out.bel; refine bodyPost_ret (results_ct rfl _ _ g2 49 #[.int .i64 0, .int .i64 0, .int .i64 0, .int .i64 0, .slice none 0 0, .bool false] (0, 0) _ rfl (by (with_reducible repeat (first | refine blk_drewN ?_ _ | refine blk_drew ?_)); exact p6 (show _ = some (Obj.cells #[.int .i64 0, .int .i64 0, .int .i64 0, .int .i64 0, .slice none 0 0, .bool false] 49 (0, 0)) from bK BR.out)) Try.underlying49 rfl (by kernel_rfl)) rfl ?_; exact ⟨_, rfl, Kd.R_nil _ _ _ _ _, bL HB.out⟩
        | true =>
         simp only [if_true, Option.some.injEq, Prod.mk.injEq] at h; obtain ⟨rfl, rfl, rfl, rfl, rfl, rfl, rfl⟩ := h
         go_wp2_with (first | (go_at_call 64; (with_reducible refine (spec_GoodAgg.calls k _ _ _ _ _ _ D _ true _ ?side1 ?side2 A1.out).mono ?_); (case side1 => exact (Kd.R_reads' (spec_ReadAgg.Fi.q (by with_reducible repeat (first | exact F.out | apply spec_ReadAgg.Fi.drewN | apply spec_ReadAgg.Fi.drew)))).2.2); (case side2 => exact (Kd.R_reads' F.out.q).2.1); rintro e w10 ⟨rfl, hb⟩; have F10 := mK (spec_ReadAgg.Fi.below (by with_reducible repeat (first | exact F.out | apply spec_ReadAgg.Fi.drewN | apply spec_ReadAgg.Fi.drew)) hb); clear F hq6 hb; have F := F10; clear F10; have hq6 := c6 F.out.bx; have hr6 := c6 F.out.br; have hf6 := f6 F.out.br))
         have BR := Aside0.mk F.out.br; have HB := Aside0.mk F.out.bel; refine bodyPost_ret (results_ct rfl _ _ g2 49 #[.int .i64 (rd acc 0), .int .i64 (rd acc 1), .int .i64 (rd acc 2), .int .i64 (rd acc 3), .slice Ah D.length ch, .bool (rd l0 0 == 1)] (0, 0) _ rfl (by (with_reducible repeat (first | refine blk_drewN ?_ _ | refine blk_drew ?_)); exact p6 (show _ = some (Obj.cells #[.int .i64 0, .int .i64 0, .int .i64 0, .int .i64 0, .slice none 0 0, .bool false] 49 (0, 0)) from bK BR.out)) Try.underlying49 rfl (by kernel_rfl)) rfl ?_
         have on8 := fun (W : World) (hW : Kd.R (Kd.int .i64) 3 W w.heap.size (fun _ => True) (.slice Ah D.length ch) D) (hb : W.heap[g2]? = some (.cells #[.int .i64 0, .int .i64 0, .int .i64 0, .int .i64 0, .slice none 0 0, .bool false] 49 (0, 0))) => On.Rt (((((((On.refl g2 W).set 0 (.int .i64 (rd acc 0))).set 1 (.int .i64 (rd acc 1))).set 2 (.int .i64 (rd acc 2))).set 3 (.int .i64 (rd acc 3))).set 4 (.slice Ah D.length ch)).set 5 (.bool (rd l0 0 == 1))) hW hb (by decide)
         exact ⟨_, rfl, by (with_reducible repeat (first | apply Kd.R_drewN | apply Kd.R_drew)); exact on8 _ (spec_ReadAgg.Fi.q (by with_reducible repeat (first | exact F.out | apply spec_ReadAgg.Fi.drewN | apply spec_ReadAgg.Fi.drew))) (spec_ReadAgg.Fi.br (by with_reducible repeat (first | exact F.out | apply spec_ReadAgg.Fi.drewN | apply spec_ReadAgg.Fi.drew))), bL HB.out⟩
     ·skip
      refine box_step (cs := #[.int .i64 0, .int .i64 0, .int .i64 0, .int .i64 0, .slice none 0 0, .bool false]) (t := 49) (by rfl) rfl ?hr9 ?_; (case hr9 => first | (go_simp; done) | (go_simp; rfl)); intro g8 hg8 w6 hbox hb; have BX9 := Aside0.mk hbox; have GX := mK (show w5.heap.size ≤ g8 from (by rw [hg8]; exact (Nat.le_refl _))); have ww := below_step (Below.refl _ _) hb; have WW := mK (show Below w5.heap.size w5 w6 from ww); have SZ := mK (show w5.heap.size ≤ w6.heap.size from ww.size); clear hg8 hbox hb ww; refine hK.out _ _ (HB5.out _ WW.out) (fun hHeld => ?_); clear hK K; refine norm_ (a' := ?_) ?_ ?_; rotate_left
      ·show Act.put _ (some 8) _ = _
       simp only [Act.put, sq_a, sq_b, sq_c, i64_w, i32_w]; rfl
      refine on_ 12 65 (fun K hK => ?_); refine Kd.R_lit_step (Kd.int .i64) _ 3 (by rfl) (N := 65) rfl (xs := ([] : List Int)) (inner := []) (ok := fun _ => True) (okp := fun _ => True) ?hr6 (Reps.none _ _) (fun _ hk => hk) trivial (Below.refl _ _) (Nat.le_refl _) (by simp) ?_; (case hr6 => first | (go_simp; done) | (go_simp; rfl)); intro v6 w7 ho6 hb6 hg6 hn6; have ww := below_step WW.out hb6; have BX9n := mK (blk_below BX9.out hb6); clear BX9; have BX9 := BX9n; clear BX9n; have HO6 := mK (Kd.R_lower (base' := w5.heap.size) ho6 SZ.out); clear WW SZ; have WW := mK (show Below w5.heap.size w5 w7 from ww); have SZ := mK (show w5.heap.size ≤ w7.heap.size from ww.size); obtain ⟨A6, c6_, e6⟩ := Kd.R_slice ho6; subst e6; clear ho6 hb6 hg6 hn6 ww; refine hK.out _ _ (HB5.out _ WW.out) (fun hHeld => ?_); clear hK K; refine norm_ (a' := ?_) ?_ ?_; rotate_left
      ·show Act.put _ (some 65) _ = _
       simp only [Act.put, sq_a, sq_b, sq_c, i64_w, i32_w]; rfl
      refine on_ 15 68 (fun K hK => ?_); refine Kd.R_append_rows_step (Kd.int .i64) (w0 := w5) w5.heap.size (by rfl) (.tmp 65) (.tmp 67) 41 3 (.int .i64 0) 8 rfl Try.underlying41 info3 rfl (by decide) (by omega) (.slice A6 ([] : List Int).length c6_) [] D _ _ _ (fun _ => True) (fun _ => False) rfl rfl ?aO ?aR (fun _ _ h => h) (fun _ h => h.elim) ?aF ?aB ?aS ?aL ?_; (case aR => exact QC.out _ WW.out); (case aB => exact WW.out); (case aF => exact (fun _ _ => trivial)); (case aO => exact HO6.out); (case aS => exact WW.out.size); (case aL => have := LD.out; simp only [List.length_nil]; omega); intro v7 w8 ho7 hb7 hg7 hat7; rw [List.nil_append] at ho7; have BX9n := mK (blk_grown (g := g8) BX9.out hg7 (Kd.R_ne HO6.out BX9.out (by decide))); clear BX9; have BX9 := BX9n; clear BX9n; clear WW HO6 SZ; have WW := Aside0.mk hb7; have SZ := mK (show w5.heap.size ≤ w8.heap.size from hb7.size); have HO9 := mK (Kd.R_lower ho7 (below_size S5.out.bel)); obtain ⟨Ah, ch, eh⟩ := Kd.R_slice ho7; subst eh; clear ho7 hb7 hg7 hat7; have hq6 := c6 BX9.out; have hf6 := f6 BX9.out; refine hK.out _ _ (HB5.out _ WW.out) (fun hHeld => ?_); clear hK K; refine norm_ (a' := ?_) ?_ ?_; rotate_left
      ·show Act.put _ (some 68) _ = _
       simp only [Act.put, sq_a, sq_b, sq_c, i64_w, i32_w]; rfl
      refine pu_ 20 73 ?_
      refine last_ (i := 22) (N := none) bq8_25 rfl rfl (by kernel_rfl) (by decide) (fun K hK => ?_); refine skip_ (w1 := ?_) (by rfl) rfl ?_ ?_; rotate_left; · go_simp; rfl
      refine hK.out _ _ ?_; clear hK K; refine done_ (by kernel_rfl) ?_; clear hHeld hq6 hf6; have S9 := mK (spec_ReadAgg.St.below S5.out WW.out); have on7 := (((((((On.refl g8 w8).set 0 (.int .i64 (rd acc 0))).set 1 (.int .i64 (rd acc 1))).set 2 (.int .i64 (rd acc 2))).set 3 (.int .i64 (rd acc 3))).set 4 (.slice Ah D.length ch)).set 5 (.bool (rd l0 0 == 1))); have bx7 := p6 BX9.out (x0 := .int .i64 (rd acc 0)) (x1 := .int .i64 (rd acc 1)) (x2 := .int .i64 (rd acc 2)) (x3 := .int .i64 (rd acc 3)) (x4 := .slice Ah D.length ch) (x5 := .bool (rd l0 0 == 1)); generalize hw7 : ((((((w8.setCell ⟨g8, 0, none⟩ (.int .i64 (rd acc 0))).setCell ⟨g8, 1, none⟩ (.int .i64 (rd acc 1))).setCell ⟨g8, 2, none⟩ (.int .i64 (rd acc 2))).setCell ⟨g8, 3, none⟩ (.int .i64 (rd acc 3))).setCell ⟨g8, 4, none⟩ (.slice Ah D.length ch)).setCell ⟨g8, 5, none⟩ (.bool (rd l0 0 == 1))) = wz at on7 bx7 ⊢; clear hw7; have F := mK (⟨on7.blk S9.out.br (Nat.ne_of_lt (Nat.lt_of_lt_of_le (blk_lt S5.out.br) GX.out)), bx7, on7.Rt HO9.out BX9.out (by decide), on7.below S9.out.bel (Nat.le_trans (below_size S5.out.bel) GX.out)⟩ : spec_ReadAgg.Fi w wz g2 g8 #[.int .i64 (rd acc 0), .int .i64 (rd acc 1), .int .i64 (rd acc 2), .int .i64 (rd acc 3), .slice Ah D.length ch, .bool (rd l0 0 == 1)] (.slice Ah D.length ch) D); have h := H2.out
      unfold spec_ReadAgg.g at h
      dsimp only at h
      rw [← hDD.out] at h; have hq6 := c6 bx7; clear on7 bx7 S9 S5 HO9 BX9 GX HB5 H2 HZ0 LA hco hcoz hco4 WW QC LD hDl' hDD
      cases hend : decide (at_ < (l0.length : Int)) with
      | true =>
       rw [hend, if_pos rfl] at h; simp only [Option.some.injEq, Prod.mk.injEq] at h; obtain ⟨rfl, rfl, rfl, rfl, rfl, rfl, rfl⟩ := h; have hr6 := c6 F.out.br; have hf6 := f6 F.out.br
       go_wp2
       have BR := Aside0.mk F.out.br; have HB := Aside0.mk F.out.bel; refine bodyPost_ret (results_ct rfl _ _ g2 49 #[.int .i64 0, .int .i64 0, .int .i64 0, .int .i64 0, .slice none 0 0, .bool false] (0, 0) _ rfl (by (with_reducible repeat (first | refine blk_drewN ?_ _ | refine blk_drew ?_)); exact p6 (show _ = some (Obj.cells #[.int .i64 0, .int .i64 0, .int .i64 0, .int .i64 0, .slice none 0 0, .bool false] 49 (0, 0)) from bK BR.out)) Try.underlying49 rfl (by kernel_rfl)) rfl ?_; exact ⟨_, rfl, Kd.R_nil _ _ _ _ _, bL HB.out⟩
      | false =>
       rw [hend, if_neg (by decide)] at h; replace h := Option.bind_eq_some_iff.mp h; obtain ⟨gd, hg1, h⟩ := h; have A1 := Aside0.mk hg1; clear hg1
       cases gd with
       | false =>
        simp only [Bool.false_eq_true, if_false, Option.some.injEq, Prod.mk.injEq] at h; obtain ⟨rfl, rfl, rfl, rfl, rfl, rfl, rfl⟩ := h
        go_wp2_with (first | (go_at_call 64; (with_reducible refine (spec_GoodAgg.calls k _ _ _ _ _ _ D _ false _ ?side1 ?side2 A1.out).mono ?_); (case side1 => exact (Kd.R_reads' (spec_ReadAgg.Fi.q (by with_reducible repeat (first | exact F.out | apply spec_ReadAgg.Fi.drewN | apply spec_ReadAgg.Fi.drew)))).2.2); (case side2 => exact (Kd.R_reads' F.out.q).2.1); rintro e w10 ⟨rfl, hb⟩; have F10 := mK (spec_ReadAgg.Fi.below (by with_reducible repeat (first | exact F.out | apply spec_ReadAgg.Fi.drewN | apply spec_ReadAgg.Fi.drew)) hb); clear F hq6 hb; have F := F10; clear F10; have hq6 := c6 F.out.bx; have hr6 := c6 F.out.br; have hf6 := f6 F.out.br))
        have BR := Aside0.mk F.out.br; have HB := Aside0.mk F.out.bel; refine bodyPost_ret (results_ct rfl _ _ g2 49 #[.int .i64 0, .int .i64 0, .int .i64 0, .int .i64 0, .slice none 0 0, .bool false] (0, 0) _ rfl (by (with_reducible repeat (first | refine blk_drewN ?_ _ | refine blk_drew ?_)); exact p6 (show _ = some (Obj.cells #[.int .i64 0, .int .i64 0, .int .i64 0, .int .i64 0, .slice none 0 0, .bool false] 49 (0, 0)) from bK BR.out)) Try.underlying49 rfl (by kernel_rfl)) rfl ?_; exact ⟨_, rfl, Kd.R_nil _ _ _ _ _, bL HB.out⟩
       | true =>
        simp only [if_true, Option.some.injEq, Prod.mk.injEq] at h; obtain ⟨rfl, rfl, rfl, rfl, rfl, rfl, rfl⟩ := h
        go_wp2_with (first | (go_at_call 64; (with_reducible refine (spec_GoodAgg.calls k _ _ _ _ _ _ D _ true _ ?side1 ?side2 A1.out).mono ?_); (case side1 => exact (Kd.R_reads' (spec_ReadAgg.Fi.q (by with_reducible repeat (first | exact F.out | apply spec_ReadAgg.Fi.drewN | apply spec_ReadAgg.Fi.drew)))).2.2); (case side2 => exact (Kd.R_reads' F.out.q).2.1); rintro e w10 ⟨rfl, hb⟩; have F10 := mK (spec_ReadAgg.Fi.below (by with_reducible repeat (first | exact F.out | apply spec_ReadAgg.Fi.drewN | apply spec_ReadAgg.Fi.drew)) hb); clear F hq6 hb; have F := F10; clear F10; have hq6 := c6 F.out.bx; have hr6 := c6 F.out.br; have hf6 := f6 F.out.br))
        have BR := Aside0.mk F.out.br; have HB := Aside0.mk F.out.bel; refine bodyPost_ret (results_ct rfl _ _ g2 49 #[.int .i64 (rd acc 0), .int .i64 (rd acc 1), .int .i64 (rd acc 2), .int .i64 (rd acc 3), .slice Ah D.length ch, .bool (rd l0 0 == 1)] (0, 0) _ rfl (by (with_reducible repeat (first | refine blk_drewN ?_ _ | refine blk_drew ?_)); exact p6 (show _ = some (Obj.cells #[.int .i64 0, .int .i64 0, .int .i64 0, .int .i64 0, .slice none 0 0, .bool false] 49 (0, 0)) from bK BR.out)) Try.underlying49 rfl (by kernel_rfl)) rfl ?_
        have on8 := fun (W : World) (hW : Kd.R (Kd.int .i64) 3 W w.heap.size (fun _ => True) (.slice Ah D.length ch) D) (hb : W.heap[g2]? = some (.cells #[.int .i64 0, .int .i64 0, .int .i64 0, .int .i64 0, .slice none 0 0, .bool false] 49 (0, 0))) => On.Rt (((((((On.refl g2 W).set 0 (.int .i64 (rd acc 0))).set 1 (.int .i64 (rd acc 1))).set 2 (.int .i64 (rd acc 2))).set 3 (.int .i64 (rd acc 3))).set 4 (.slice Ah D.length ch)).set 5 (.bool (rd l0 0 == 1))) hW hb (by decide)
        exact ⟨_, rfl, by (with_reducible repeat (first | apply Kd.R_drewN | apply Kd.R_drew)); exact on8 _ (spec_ReadAgg.Fi.q (by with_reducible repeat (first | exact F.out | apply spec_ReadAgg.Fi.drewN | apply spec_ReadAgg.Fi.drew))) (spec_ReadAgg.Fi.br (by with_reducible repeat (first | exact F.out | apply spec_ReadAgg.Fi.drewN | apply spec_ReadAgg.Fi.drew))), bL HB.out⟩
end Go.Proofs.Ytllmlnagihlokaa.PFnExactBoundsOf
