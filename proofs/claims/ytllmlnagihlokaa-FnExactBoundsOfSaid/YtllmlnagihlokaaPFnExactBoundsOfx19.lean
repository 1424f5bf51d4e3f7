-- Written by a program of this session.
import Derived.Test.YtllmlnagihlokaaPFnExactBoundsOfx0
import Derived.Test.YtllmlnagihlokaaPFnExactBoundsOfx11
import Derived.Test.YtllmlnagihlokaaPFnExactBoundsOfx13
import Derived.Test.YtllmlnagihlokaaPFnExactBoundsOfx18
namespace Go.Proofs.Ytllmlnagihlokaa.PFnExactBoundsOf
open Go.RowKit Go.Proofs.YtllmlnagihlokaaW.PrintWords Go.Proofs.YtllmlnagihlokaaW.PrintLast Go.Proofs.YtllmlnagihlokaaW.PrintMore
attribute [local go_sem] max2_int min2_int max_two min_two max_three min_three max_four min_four hw_string_geq hw_string_gtr hw_string_leq
set_option linter.unusedVariables false
set_option linter.unusedSimpArgs false
abbrev bq19_0 : Array Bool := #[false, false, false, false, false, false, false, false, false, false, false, false, false, false, false, false, false, false, false, false, false]
abbrev bq19_21 : Array Bool := #[true, true, true, true, true, true, true, true, true, true, true, true, true, true, true, true, true, true, true, true, true]
/-! ### impl_ReadAgg: function 113, by hand -/
/-- a number out of its code -/
def impl_ReadAgg.zig (x : Int) : Int := if (bits BinOp.and IntKind.u64 x 1 == 1) = true then wrap64 (wrap64 (-(wrap64 (x / 2))) - 1) else wrap64 (x / 2)
def impl_ReadAgg.l (k : Nat) (l0 : List Int) : Nat → List Int → Int → Option (Option (List Int))
 | 0, acc, _ => some (some acc)
 | n + 1, acc, at_ => (impl_ReadVar.f k l0 at_).bind fun p => if p.2.2 = true then impl_ReadAgg.l k l0 n (acc ++ [impl_ReadAgg.zig p.1]) p.2.1 else some none
def impl_ReadAgg.g (k : Nat) (l0 L : List Int) : Option (Int × Int × Int × Int × List Int × Bool × Bool) :=
 (impl_GoodAgg.f k (rd L 0) (rd L 1) (rd L 2) (rd L 3) (L.drop 4) (rd l0 0 == 1)).bind fun g => if g = true then (impl_aggBytes.f k (rd L 0) (rd L 1) (rd L 2) (rd L 3) (L.drop 4) (rd l0 0 == 1)).bind fun b => (bytes_Equal.f b l0).bind fun e => if e = true then some (rd L 0, rd L 1, rd L 2, rd L 3, L.drop 4, (rd l0 0 == 1), true) else some (0, 0, 0, 0, [], false, false) else some (0, 0, 0, 0, [], false, false)
def impl_ReadAgg.f (k : Nat) (l0 : List Int) : Option (Int × Int × Int × Int × List Int × Bool × Bool) :=
 if l0.length = 0 then some (0, 0, 0, 0, [], false, false) else (impl_ReadAgg.l k l0 12 [] 1).bind fun o => o.elim (some (0, 0, 0, 0, [], false, false)) (impl_ReadAgg.g k l0)
/-- what the last region reads -/
abbrev impl_ReadAgg.Ce (go : Nat) (bd : Addr) (acc l0 : List Int) (V : World) : Prop := V.cell? ⟨go, 0, none⟩ = some (.int .i64 (rd acc 0)) ∧ V.cell? ⟨go, 1, none⟩ = some (.int .i64 (rd acc 1)) ∧ V.cell? ⟨go, 2, none⟩ = some (.int .i64 (rd acc 2)) ∧ V.cell? ⟨go, 3, none⟩ = some (.int .i64 (rd acc 3)) ∧ V.cell? bd = some (.int .u8 (rd l0 0))
/-- what is so in the rounds -/
structure impl_ReadAgg.St (w0 W : World) (g2 : Nat) (v : Value) (l : List Int) : Prop where
 br : W.heap[g2]? = some (.cells #[.int .i64 0, .int .i64 0, .int .i64 0, .int .i64 0, .slice none 0 0, .bool false] 49 (0, 0))
 row : Kd.R (Kd.int .i64) 3 W w0.heap.size (fun _ => True) v l
 bel : Below w0.heap.size w0 W
section
variable {w0 W V : World} {g2 : Nat} {v : Value} {l : List Int}
theorem impl_ReadAgg.St.drew (h : impl_ReadAgg.St w0 W g2 v l) : impl_ReadAgg.St w0 W.drew g2 v l := ⟨h.br, Kd.R_drew h.row, below_drew1 h.bel⟩
theorem impl_ReadAgg.St.drewN (h : impl_ReadAgg.St w0 W g2 v l) (n : Nat) : impl_ReadAgg.St w0 (W.drewN n) g2 v l := ⟨h.br, Kd.R_drewN h.row n, pw_below_drewN h.bel n⟩
theorem impl_ReadAgg.St.below (h : impl_ReadAgg.St w0 W g2 v l) (hb : Below W.heap.size W V) : impl_ReadAgg.St w0 V g2 v l := ⟨blk_below h.br hb, Kd.R_below h.row hb, below_step h.bel hb⟩
end
/-- what is so behind the rounds -/
structure impl_ReadAgg.Fi (w0 W : World) (g2 g10 : Nat) (cs : Array Value) (v : Value) (D : List Int) : Prop where
 br : W.heap[g2]? = some (.cells #[.int .i64 0, .int .i64 0, .int .i64 0, .int .i64 0, .slice none 0 0, .bool false] 49 (0, 0))
 bx : W.heap[g10]? = some (.cells cs 49 (0, 0))
 q : Kd.Q (Kd.int .i64) 3 W w0.heap.size (fun _ => True) v D
 bel : Below w0.heap.size w0 W
section
variable {w0 W V : World} {g2 g10 : Nat} {cs : Array Value} {v : Value} {D : List Int}
theorem impl_ReadAgg.Fi.drew (h : impl_ReadAgg.Fi w0 W g2 g10 cs v D) : impl_ReadAgg.Fi w0 W.drew g2 g10 cs v D := ⟨h.br, h.bx, Kd.Q_drew h.q, below_drew1 h.bel⟩
theorem impl_ReadAgg.Fi.drewN (h : impl_ReadAgg.Fi w0 W g2 g10 cs v D) (n : Nat) : impl_ReadAgg.Fi w0 (W.drewN n) g2 g10 cs v D := ⟨h.br, h.bx, Kd.Q_drewN h.q n, pw_below_drewN h.bel n⟩
theorem impl_ReadAgg.Fi.below (h : impl_ReadAgg.Fi w0 W g2 g10 cs v D) (hb : Below W.heap.size W V) : impl_ReadAgg.Fi w0 V g2 g10 cs v D := ⟨blk_below h.br hb, blk_below h.bx hb, Kd.Q_below h.q hb, below_step h.bel hb⟩
end
set_option maxHeartbeats 8000000 in
set_option maxRecDepth 100000 in
theorem impl_ReadAgg.calls (k : Nat) (A0 : Option Addr) (c0 : Nat) (l0 : List Int) (r1 : Int) (r2 : Int) (r3 : Int) (r4 : Int) (r5 : List Int) (r6 : Bool) (r7 : Bool) (w : World) (hr0 : Kd.C (Kd.int .u8) w A0 l0.length l0) (hc0 : l0.length ≤ c0) (h : impl_ReadAgg.f k l0 = some (r1, r2, r3, r4, r5, r6, r7)) :
  Calls Try.prog 113 #[.slice A0 l0.length c0] w fun e w' => ∃ v4_ : Value, e = .returned (.tuple #[.agg #[.int .i64 r1, .int .i64 r2, .int .i64 r3, .int .i64 r4, v4_, .bool r6], .bool r7]) ∧ Kd.Q (Kd.int .i64) 3 w' w.heap.size (fun _ => True) v4_ r5 ∧ Below w.heap.size w w' := by
 have hu26 := Try.underlying49
 have HR0 := Aside0.mk hr0
 have HC0 := Aside0.mk hc0
 have HB := mK (Below.refl w.heap.size w)
 clear hr0 hc0
 unfold impl_ReadAgg.f at h
 by_cases hz : l0.length = 0
 ·rw [if_pos hz] at h
  simp only [Option.some.injEq, Prod.mk.injEq] at h; obtain ⟨rfl, rfl, rfl, rfl, rfl, rfl, rfl⟩ := h
  have hzb : ((l0.length : Int) == 0) = true := by rw [hz]; rfl
  clear hz
  go_enter Try.func113, Try.ntmps113
  go_wp2_with (first | ((with_reducible refine gate_dst (N := 2) rfl ?_); refine box_event ?hg (N := 2) ?hd (cs := #[.int .i64 0, .int .i64 0, .int .i64 0, .int .i64 0, .slice none 0 0, .bool false]) (t := 49) ?hr ?_; (case hd => rfl); (case hg => rfl); (case hr => first | (go_simp; done) | (go_simp; rfl)); intro g2 hg w2 hbox hb; have GE := mK ((by rw [hg]; exact Nat.le_refl _) : w.heap.size ≤ g2); have B2 := mK (below_step (bL HB.out) hb); have BR := Aside0.mk hbox; clear HB; have HB := B2; have hq6 := c6 BR.out; have hf6 := f6 BR.out; clear B2 hb hbox hg))
  refine bodyPost_ret (results_ct rfl _ _ g2 49 #[.int .i64 0, .int .i64 0, .int .i64 0, .int .i64 0, .slice none 0 0, .bool false] (0, 0) _ rfl (by (with_reducible repeat (first | refine blk_drewN ?_ _ | refine blk_drew ?_)); exact p6 (show _ = some (Obj.cells #[.int .i64 0, .int .i64 0, .int .i64 0, .int .i64 0, .slice none 0 0, .bool false] 49 (0, 0)) from bK BR.out)) Try.underlying49 rfl (by kernel_rfl)) rfl ?_; exact ⟨_, rfl, Kd.Q_nil _ _ _ _ _, bL HB.out⟩
 ·rw [if_neg hz] at h
  have hzb : ((l0.length : Int) == 0) = false := by simp only [beq_eq_false_iff_ne]; omega
  have hz0 : 0 < l0.length := Nat.pos_of_ne_zero hz; have HZ0 := Aside0.mk hz0; replace h := Option.bind_eq_some_iff.mp h; obtain ⟨o, hl, h⟩ := h; have HL := Aside0.mk hl; have H := Aside0.mk h; clear hz hz0 h hl; obtain ⟨y0, hy0⟩ : ∃ y : List Int, y = [] := ⟨_, rfl⟩; have Ny0 := Aside0.mk hy0; clear hy0
  go_enter Try.func113, Try.ntmps113
  go_wp2_with (first | ((with_reducible refine gate_dst (N := 2) rfl ?_); refine box_event ?hg (N := 2) ?hd (cs := #[.int .i64 0, .int .i64 0, .int .i64 0, .int .i64 0, .slice none 0 0, .bool false]) (t := 49) ?hr ?_; (case hd => rfl); (case hg => rfl); (case hr => first | (go_simp; done) | (go_simp; rfl)); intro g2 hg w2 hbox hb; have GE := mK ((by rw [hg]; exact Nat.le_refl _) : w.heap.size ≤ g2); have B2 := mK (below_step (bL HB.out) hb); have BR := Aside0.mk hbox; clear HB; have HB := B2; have hq6 := c6 BR.out; have hf6 := f6 BR.out; clear B2 hb hbox hg) | ((with_reducible refine gate_dst (N := 15) rfl ?_); refine Kd.R_lit (Kd.int .i64) _ 3 ?hg (N := 15) ?hd (xs := ([] : List Int)) (inner := []) (ok := fun _ => True) (okp := fun _ => True) ?hr ?hp (fun _ hk => hk) trivial (Below.refl _ _) (Nat.le_refl _) (by simp) ?_; (case hd => rfl); (case hg => rfl); (case hr => first | (go_simp; done) | (go_simp; rfl)); (case hp => exact (Reps.none _ _)); intro v3 w3 ho3 hb hg_ hnew_; clear hg_ hnew_; rw [← Ny0.out] at ho3; have S := mK (⟨blk_below (bK BR.out) hb, Kd.R_lower ho3 (below_size (bL HB.out)), below_step (bL HB.out) hb⟩ : impl_ReadAgg.St w w3 g2 v3 y0); clear hb ho3 BR HB))
  go_loopg [4, 5, 16] 12 (fun gg v4 v5 v16 w' => ∃ (kk : Nat) (at_ : Int) (vv : Value) (acc : List Int), kk ≤ 12 ∧ 12 - kk ≤ gg ∧ v4 = vv ∧ v5 = .int .i64 at_ ∧ v16 = .int .i64 kk ∧ Aside0 (acc.length = kk) ∧ Aside0 (impl_ReadAgg.l k l0 (12 - kk) acc at_ = some o) ∧ Aside0 (impl_ReadAgg.St w w' g2 vv acc))
  case atStart => exact ⟨0, 1, v3, y0, Nat.zero_le _, by omega, rfl, rfl, rfl, ⟨by rw [Ny0.out]; rfl⟩, ⟨by rw [Ny0.out]; exact HL.out⟩, ⟨(by with_reducible repeat (first | exact S.out | apply impl_ReadAgg.St.drewN | apply impl_ReadAgg.St.drew))⟩⟩
  case round =>
   clear HL Ny0 S; obtain ⟨kk, at_, vv, acc, hkk, hg, rfl, rfl, rfl, LA, HL, S⟩ := hrel
   by_cases hlt : kk < 12
   ·have hltz : (kk : Int) < 12 := by omega
    have hl := HL.out; rw [show 12 - kk = (12 - (kk + 1)) + 1 by omega] at hl; simp only [impl_ReadAgg.l] at hl; replace hl := Option.bind_eq_some_iff.mp hl; obtain ⟨⟨x, nx, ok⟩, hv, hl⟩ := hl; have HV := Aside0.mk hv; have HN := Aside0.mk hl; clear hv hl HL
    cases ok with
    | false =>
     have hn := HN.out; simp only [Bool.false_eq_true, if_false, Option.some.injEq] at hn; subst hn; have h := H.out; simp only [Option.elim_none, Option.some.injEq, Prod.mk.injEq] at h; obtain ⟨rfl, rfl, rfl, rfl, rfl, rfl, rfl⟩ := h; clear HN H
     go_wp2_with (first | ((with_reducible refine gate_callee (f := 112) rfl ?_); refine goesL_ (some 21) rfl rfl Try.func112 (by kernel_rfl) rfl #[.slice A0 l0.length c0, .int .i64 at_] rfl (by (try simp only [List.map_toArray, List.map_cons, List.map_nil]); first | done | rfl) ?_; (with_reducible refine (impl_ReadVar.calls k _ _ l0 at_ x nx false _ ?side1 HC0.out HV.out).mono ?_); (case side1 => exact Kd.C_below HR0.out (impl_ReadAgg.St.bel (by with_reducible repeat (first | exact S.out | apply impl_ReadAgg.St.drewN | apply impl_ReadAgg.St.drew)))); rintro e w5 ⟨rfl, hb⟩; refine ⟨_, rfl, ?_⟩; have S5 := mK (impl_ReadAgg.St.below (by with_reducible repeat (first | exact S.out | apply impl_ReadAgg.St.drewN | apply impl_ReadAgg.St.drew)) hb); have BR := Aside0.mk S5.out.br; have HB := Aside0.mk S5.out.bel; have hq6 := c6 BR.out; have hf6 := f6 BR.out; clear hb S))
     refine bodyPost_ret (results_ct rfl _ _ g2 49 #[.int .i64 0, .int .i64 0, .int .i64 0, .int .i64 0, .slice none 0 0, .bool false] (0, 0) _ rfl (by (with_reducible repeat (first | refine blk_drewN ?_ _ | refine blk_drew ?_)); exact p6 (show _ = some (Obj.cells #[.int .i64 0, .int .i64 0, .int .i64 0, .int .i64 0, .slice none 0 0, .bool false] 49 (0, 0)) from bK BR.out)) Try.underlying49 rfl (by kernel_rfl)) rfl ?_; exact ⟨_, rfl, Kd.Q_nil _ _ _ _ _, bL HB.out⟩
    | true =>
     have hn := HN.out; simp only [if_true] at hn; have HN2 := Aside0.mk hn; clear hn HN; obtain ⟨Ao, co, eo⟩ := Kd.R_slice S.out.row; subst eo
     cases hodd : (bits BinOp.and IntKind.u64 x 1 == 1)
     ·have hzig : impl_ReadAgg.zig x = (wrap64 (x / 2)) := by unfold impl_ReadAgg.zig; rw [hodd]; rfl
      rw [hzig] at HN2; clear hzig; obtain ⟨y6, hy6⟩ : ∃ y : List Int, y = acc ++ [(wrap64 (x / 2))] := ⟨_, rfl⟩; rw [← hy6] at HN2; have Ny6 := Aside0.mk hy6; clear hy6
      go_wp2_with (first | ((with_reducible refine gate_callee (f := 112) rfl ?_); refine goesL_ (some 21) rfl rfl Try.func112 (by kernel_rfl) rfl #[.slice A0 l0.length c0, .int .i64 at_] rfl (by (try simp only [List.map_toArray, List.map_cons, List.map_nil]); first | done | rfl) ?_; (with_reducible refine (impl_ReadVar.calls k _ _ l0 at_ x nx true _ ?side1 HC0.out HV.out).mono ?_); (case side1 => exact Kd.C_below HR0.out (impl_ReadAgg.St.bel (by with_reducible repeat (first | exact S.out | apply impl_ReadAgg.St.drewN | apply impl_ReadAgg.St.drew)))); rintro e w5 ⟨rfl, hb⟩; refine ⟨_, rfl, ?_⟩; have S5 := mK (impl_ReadAgg.St.below (by with_reducible repeat (first | exact S.out | apply impl_ReadAgg.St.drewN | apply impl_ReadAgg.St.drew)) hb); have BR := Aside0.mk S5.out.br; have HB := Aside0.mk S5.out.bel; have hq6 := c6 BR.out; have hf6 := f6 BR.out; clear hb S) | ((with_reducible refine gate_builtin (b := .append) (xs := #[.tmp 37, .tmp 39]) rfl ?_); at_builtin; refine Kd.R_append (Kd.int .i64) (w0 := w) w.heap.size rfl (.tmp 37) (.tmp 39) 41 3 (.int .i64 0) 8 rfl Try.underlying41 info3 rfl (by decide) (by omega) (.slice Ao acc.length co) acc (wrap64 (x / 2)) [.int .i64 (wrap64 (x / 2))] (fun _ => True) (fun _ => False) rfl rfl ?aP (fun _ hk => hk.elim) ?aF ?aO ?aB ?aS ?aL ?_; (case aP => exact rfl); (case aB => exact (by with_reducible repeat (first | exact S5.out.bel | apply below_alloc | apply pw_below_drewN | apply below_drew1))); (case aF => exact (fun _ _ => trivial)); (case aO => exact (by (with_reducible repeat (first | apply Kd.R_alloc | apply Kd.R_drewN | apply Kd.R_drew)); exact S5.out.row)); (case aS => exact (below_size (by with_reducible repeat (first | exact S5.out.bel | apply below_alloc | apply pw_below_drewN | apply below_drew1)))); (case aL => have := LA.out; omega); intro v6 w6 ho hb hg6 hat; rw [← Ny6.out] at ho; have S6 := mK (⟨blk_grown (g := g2) (bK S5.out.br) hg6 (Kd.R_ne S5.out.row S5.out.br (by decide)), ho, hb⟩ : impl_ReadAgg.St w w6 g2 v6 y6); clear ho hb hg6 hat BR HB hq6 hf6))
      go_roundg (12 - (kk + 1))
      case measure => omega
      case rel => exact ⟨kk + 1, nx, _, y6, by omega, by omega, rfl, rfl, by go_num, ⟨by rw [Ny6.out, List.length_append, LA.out]; rfl⟩, HN2, ⟨by with_reducible repeat (first | exact S6.out | apply impl_ReadAgg.St.drewN | apply impl_ReadAgg.St.drew)⟩⟩
     ·have hzig : impl_ReadAgg.zig x = (wrap64 (wrap64 (-wrap64 (x / 2)) - 1)) := by unfold impl_ReadAgg.zig; rw [hodd]; rfl
      rw [hzig] at HN2; clear hzig; obtain ⟨y6, hy6⟩ : ∃ y : List Int, y = acc ++ [(wrap64 (wrap64 (-wrap64 (x / 2)) - 1))] := ⟨_, rfl⟩; rw [← hy6] at HN2; have Ny6 := Aside0.mk hy6; clear hy6
      go_wp2_with (first | ((with_reducible refine gate_callee (f := 112) rfl ?_); refine goesL_ (some 21) rfl rfl Try.func112 (by kernel_rfl) rfl #[.slice A0 l0.length c0, .int .i64 at_] rfl (by (try simp only [List.map_toArray, List.map_cons, List.map_nil]); first | done | rfl) ?_; (with_reducible refine (impl_ReadVar.calls k _ _ l0 at_ x nx true _ ?side1 HC0.out HV.out).mono ?_); (case side1 => exact Kd.C_below HR0.out (impl_ReadAgg.St.bel (by with_reducible repeat (first | exact S.out | apply impl_ReadAgg.St.drewN | apply impl_ReadAgg.St.drew)))); rintro e w5 ⟨rfl, hb⟩; refine ⟨_, rfl, ?_⟩; have S5 := mK (impl_ReadAgg.St.below (by with_reducible repeat (first | exact S.out | apply impl_ReadAgg.St.drewN | apply impl_ReadAgg.St.drew)) hb); have BR := Aside0.mk S5.out.br; have HB := Aside0.mk S5.out.bel; have hq6 := c6 BR.out; have hf6 := f6 BR.out; clear hb S) | ((with_reducible refine gate_builtin (b := .append) (xs := #[.tmp 37, .tmp 39]) rfl ?_); at_builtin; refine Kd.R_append (Kd.int .i64) (w0 := w) w.heap.size rfl (.tmp 37) (.tmp 39) 41 3 (.int .i64 0) 8 rfl Try.underlying41 info3 rfl (by decide) (by omega) (.slice Ao acc.length co) acc (wrap64 (wrap64 (-wrap64 (x / 2)) - 1)) [.int .i64 (wrap64 (wrap64 (-wrap64 (x / 2)) - 1))] (fun _ => True) (fun _ => False) rfl rfl ?aP (fun _ hk => hk.elim) ?aF ?aO ?aB ?aS ?aL ?_; (case aP => exact rfl); (case aB => exact (by with_reducible repeat (first | exact S5.out.bel | apply below_alloc | apply pw_below_drewN | apply below_drew1))); (case aF => exact (fun _ _ => trivial)); (case aO => exact (by (with_reducible repeat (first | apply Kd.R_alloc | apply Kd.R_drewN | apply Kd.R_drew)); exact S5.out.row)); (case aS => exact (below_size (by with_reducible repeat (first | exact S5.out.bel | apply below_alloc | apply pw_below_drewN | apply below_drew1)))); (case aL => have := LA.out; omega); intro v6 w6 ho hb hg6 hat; rw [← Ny6.out] at ho; have S6 := mK (⟨blk_grown (g := g2) (bK S5.out.br) hg6 (Kd.R_ne S5.out.row S5.out.br (by decide)), ho, hb⟩ : impl_ReadAgg.St w w6 g2 v6 y6); clear ho hb hg6 hat BR HB hq6 hf6))
      go_roundg (12 - (kk + 1))
      case measure => omega
      case rel => exact ⟨kk + 1, nx, _, y6, by omega, by omega, rfl, rfl, by go_num, ⟨by rw [Ny6.out, List.length_append, LA.out]; rfl⟩, HN2, ⟨by with_reducible repeat (first | exact S6.out | apply impl_ReadAgg.St.drewN | apply impl_ReadAgg.St.drew)⟩⟩
   ·have hltz : ¬ (kk : Int) < 12 := by omega
    have hk12 : kk = 12 := by omega
    subst hk12; have hl := HL.out; simp only [Nat.sub_self, impl_ReadAgg.l, Option.some.injEq] at hl; subst hl; have h := H.out; simp only [Option.elim_some] at h; have H2 := Aside0.mk h; clear h H HL; obtain ⟨go, co, eo, hgb, hgl, _⟩ := Kd.R_form S.out.row (by rw [LA.out]; omega); subst eo; have hz0 := HZ0.out; obtain ⟨bd, eb, hxb⟩ := Kd.at_int (Kd.C_below HR0.out S.out.bel) (0 : Int) (by omega) (by omega); subst eb; have hc := (Kd.R_reads' S.out.row).2.2; have hla := LA.out; obtain ⟨a0_, e0, hx0⟩ := Kd.at_int hc (0 : Int) (by omega) (by omega)
    cases e0
    obtain ⟨a0_, e0, hx1⟩ := Kd.at_int hc (1 : Int) (by omega) (by omega)
    cases e0
    obtain ⟨a0_, e0, hx2⟩ := Kd.at_int hc (2 : Int) (by omega) (by omega)
    cases e0
    obtain ⟨a0_, e0, hx3⟩ := Kd.at_int hc (3 : Int) (by omega) (by omega)
    cases e0
    have HB9 := mK (show ∀ V, Below wr.heap.size wr V → impl_ReadAgg.Ce go bd acc l0 V from fun V hV => ⟨(hV.cell (World.block_lt_of_cell? _ _ hx0)).trans hx0, (hV.cell (World.block_lt_of_cell? _ _ hx1)).trans hx1, (hV.cell (World.block_lt_of_cell? _ _ hx2)).trans hx2, (hV.cell (World.block_lt_of_cell? _ _ hx3)).trans hx3, (hV.cell (World.block_lt_of_cell? _ _ hxb)).trans hxb⟩)
    have hlz : ((acc.length : Nat) : Int) = 12 := by rw [hla]; rfl
    clear hx0 hx1 hx2 hx3 hxb hc hla; have hco := (Kd.R_reads' S.out.row).2.1; rw [LA.out] at hco
    have hcoz : (12 : Int) ≤ (co : Int) := by omega
    have hco4 : ¬ co = 4 := by omega
    go_wp2
    have S5 := mK (impl_ReadAgg.St.drew S.out); have HB5 := mK (show ∀ V, Below wr.drew.heap.size wr.drew V → impl_ReadAgg.Ce go bd acc l0 V from fun V hV => HB9.out V (below_step (below_drew1 (Below.refl _ _)) hV)); refine start_ (n := 21) (S := impl_ReadAgg.Ce go bd acc l0) (ds := [20]) bq19_0 (by kernel_rfl) rfl rfl (HB5.out _ (Below.refl _ _)) (fun hHeld => ?_); clear HB9 S; generalize wr.drew = w5 at S5 HB5 hHeld ⊢; refine pu_ 0 43 ?_
    refine pu_ 1 44 ?_
    refine tk_ 2 45 hHeld ?_
    refine pu_ 3 46 ?_
    refine pu_ 4 47 ?_
    refine tk_ 5 48 hHeld ?_
    refine pu_ 6 49 ?_
    refine pu_ 7 50 ?_
    refine tk_ 8 51 hHeld ?_
    refine pu_ 9 52 ?_
    refine pu_ 10 53 ?_
    refine tk_ 11 54 hHeld ?_
    refine pu_ 12 55 ?_
    refine pu_ 13 56 ?_
    refine pu_ 14 57 ?_
    refine pu_ 15 58 ?_
    refine tk_ 16 59 hHeld ?_
    refine pu_ 17 60 ?_
    refine pu_ 18 61 ?_
    refine on_ 19 10 (fun K hK => ?_); refine box_step (cs := #[.int .i64 0, .int .i64 0, .int .i64 0, .int .i64 0, .slice none 0 0, .bool false]) (t := 49) (by rfl) rfl ?hr9 ?_; (case hr9 => first | (go_simp; done) | (go_simp; rfl)); intro g10 hg10 w6 hbox hb; have S6 := mK (impl_ReadAgg.St.below S5.out hb); have BX6 := Aside0.mk hbox; have GX := mK (show g10 = w5.heap.size from hg10); clear hg10; have hq6 := c6 hbox; have hf6 := f6 hbox; refine hK.out _ _ (HB5.out _ hb) (fun hHeld => ?_); clear hK K; refine norm_ (a' := ?_) ?_ ?_; rotate_left
    ·show Act.put _ (some 10) _ = _
     simp only [Act.put, sq_a, sq_b, sq_c, i64_w, i32_w]; rfl
    refine last_ (i := 20) (N := none) bq19_21 rfl rfl (by kernel_rfl) (by decide) (fun K hK => ?_); refine skip_ (w1 := ?_) (by rfl) rfl ?_ ?_; rotate_left; · go_simp; rfl
    refine hK.out _ _ ?_; clear hK K; refine done_ (by kernel_rfl) ?_; clear hHeld hq6 hf6; have on7 := ((((((On.refl g10 w6).set 0 (.int .i64 (rd acc 0))).set 1 (.int .i64 (rd acc 1))).set 2 (.int .i64 (rd acc 2))).set 3 (.int .i64 (rd acc 3))).set 4 (.slice (some ⟨go, 4, none⟩) (acc.length - 4) (co - 4))).set 5 (.bool (rd l0 0 == 1)); have bx7 := p6 BX6.out (x0 := .int .i64 (rd acc 0)) (x1 := .int .i64 (rd acc 1)) (x2 := .int .i64 (rd acc 2)) (x3 := .int .i64 (rd acc 3)) (x4 := .slice (some ⟨go, 4, none⟩) (acc.length - 4) (co - 4)) (x5 := .bool (rd l0 0 == 1)); generalize hw7 : ((((((w6.setCell ⟨g10, 0, none⟩ (.int .i64 (rd acc 0))).setCell ⟨g10, 1, none⟩ (.int .i64 (rd acc 1))).setCell ⟨g10, 2, none⟩ (.int .i64 (rd acc 2))).setCell ⟨g10, 3, none⟩ (.int .i64 (rd acc 3))).setCell ⟨g10, 4, none⟩ (.slice (some ⟨go, 4, none⟩) (acc.length - 4) (co - 4))).setCell ⟨g10, 5, none⟩ (.bool (rd l0 0 == 1))) = w7 at on7 bx7 ⊢; clear hw7; have q7 := Kd.Q_drop (Kd.Q_of_R (on7.Rt S6.out.row BX6.out (by decide))) (k := 4) (by rw [LA.out]; omega); rw [if_neg hco4] at q7; obtain ⟨D, hD⟩ : ∃ y : List Int, y = acc.drop 4 := ⟨_, rfl⟩
    have hDl : acc.length - 4 = D.length := by rw [hD, List.length_drop]
    rw [← hD, hDl] at q7; rw [hDl] at bx7; have F := mK (⟨on7.blk S6.out.br (by rw [GX.out]; exact Nat.ne_of_lt (blk_lt S5.out.br)), bx7, q7, on7.below S6.out.bel (by rw [GX.out]; exact below_size S5.out.bel)⟩ : impl_ReadAgg.Fi w w7 g2 g10 #[.int .i64 (rd acc 0), .int .i64 (rd acc 1), .int .i64 (rd acc 2), .int .i64 (rd acc 3), .slice (some ⟨go, 4, none⟩) D.length (co - 4), .bool (rd l0 0 == 1)] (.slice (some ⟨go, 4, none⟩) D.length (co - 4)) D); have h := H2.out
    unfold impl_ReadAgg.g at h
    rw [← hD] at h; have hq6 := c6 bx7; clear on7 bx7 q7 hD hDl S5 S6 BX6 GX HB5 H2 HZ0 LA hco hcoz hco4; replace h := Option.bind_eq_some_iff.mp h; obtain ⟨gd, hg1, h⟩ := h; have A1 := Aside0.mk hg1; clear hg1
    cases gd with
    | false =>
     simp only [Bool.false_eq_true, if_false, Option.some.injEq, Prod.mk.injEq] at h; obtain ⟨rfl, rfl, rfl, rfl, rfl, rfl, rfl⟩ := h
     go_wp2_with (first | ((with_reducible refine gate_callee (f := 71) rfl ?_); refine goesL_ (some 63) rfl rfl Try.func71 (by kernel_rfl) rfl #[.agg #[.int .i64 (rd acc 0), .int .i64 (rd acc 1), .int .i64 (rd acc 2), .int .i64 (rd acc 3), .slice (some ⟨go, 4, none⟩) D.length (co - 4), .bool (rd l0 0 == 1)]] rfl (by (try simp only [List.map_toArray, List.map_cons, List.map_nil]); first | done | rfl) ?_; (with_reducible refine (impl_GoodAgg.calls k _ _ _ _ _ _ D _ false _ ?side1 ?side2 A1.out).mono ?_); (case side1 => exact (Kd.Q_reads' (impl_ReadAgg.Fi.q (by with_reducible repeat (first | exact F.out | apply impl_ReadAgg.Fi.drewN | apply impl_ReadAgg.Fi.drew)))).2.2); (case side2 => exact (Kd.Q_reads' F.out.q).2.1); rintro e w8 ⟨rfl, hb⟩; refine ⟨_, rfl, ?_⟩; have F8 := mK (impl_ReadAgg.Fi.below (by with_reducible repeat (first | exact F.out | apply impl_ReadAgg.Fi.drewN | apply impl_ReadAgg.Fi.drew)) hb); clear F hq6 hb; have F := F8; clear F8; have hq6 := c6 F.out.bx; have hr6 := c6 F.out.br; have hf6 := f6 F.out.br))
     have BR := Aside0.mk F.out.br; have HB := Aside0.mk F.out.bel; refine bodyPost_ret (results_ct rfl _ _ g2 49 #[.int .i64 0, .int .i64 0, .int .i64 0, .int .i64 0, .slice none 0 0, .bool false] (0, 0) _ rfl (by (with_reducible repeat (first | refine blk_drewN ?_ _ | refine blk_drew ?_)); exact p6 (show _ = some (Obj.cells #[.int .i64 0, .int .i64 0, .int .i64 0, .int .i64 0, .slice none 0 0, .bool false] 49 (0, 0)) from bK BR.out)) Try.underlying49 rfl (by kernel_rfl)) rfl ?_; exact ⟨_, rfl, Kd.Q_nil _ _ _ _ _, bL HB.out⟩
    | true =>
     simp only [if_true] at h; replace h := Option.bind_eq_some_iff.mp h; obtain ⟨bs, hg2, h⟩ := h; replace h := Option.bind_eq_some_iff.mp h; obtain ⟨eq, hg3, h⟩ := h; have A2 := Aside0.mk hg2; have A3 := Aside0.mk hg3; clear hg2 hg3
     cases eq with
     | false =>
      simp only [Bool.false_eq_true, if_false, Option.some.injEq, Prod.mk.injEq] at h; obtain ⟨rfl, rfl, rfl, rfl, rfl, rfl, rfl⟩ := h
      go_wp2_with (first | ((with_reducible refine gate_callee (f := 71) rfl ?_); refine goesL_ (some 63) rfl rfl Try.func71 (by kernel_rfl) rfl #[.agg #[.int .i64 (rd acc 0), .int .i64 (rd acc 1), .int .i64 (rd acc 2), .int .i64 (rd acc 3), .slice (some ⟨go, 4, none⟩) D.length (co - 4), .bool (rd l0 0 == 1)]] rfl (by (try simp only [List.map_toArray, List.map_cons, List.map_nil]); first | done | rfl) ?_; (with_reducible refine (impl_GoodAgg.calls k _ _ _ _ _ _ D _ true _ ?side1 ?side2 A1.out).mono ?_); (case side1 => exact (Kd.Q_reads' (impl_ReadAgg.Fi.q (by with_reducible repeat (first | exact F.out | apply impl_ReadAgg.Fi.drewN | apply impl_ReadAgg.Fi.drew)))).2.2); (case side2 => exact (Kd.Q_reads' F.out.q).2.1); rintro e w8 ⟨rfl, hb⟩; refine ⟨_, rfl, ?_⟩; have F8 := mK (impl_ReadAgg.Fi.below (by with_reducible repeat (first | exact F.out | apply impl_ReadAgg.Fi.drewN | apply impl_ReadAgg.Fi.drew)) hb); clear F hq6 hb; have F := F8; clear F8; have hq6 := c6 F.out.bx; have hr6 := c6 F.out.br; have hf6 := f6 F.out.br) | (go_at_call 79; (with_reducible refine (impl_aggBytes.calls k _ _ _ _ _ _ D _ bs _ ?side1 ?side2 A2.out).mono ?_); (case side1 => exact (Kd.Q_reads' (impl_ReadAgg.Fi.q (by with_reducible repeat (first | exact F.out | apply impl_ReadAgg.Fi.drewN | apply impl_ReadAgg.Fi.drew)))).2.2); (case side2 => exact (Kd.Q_reads' F.out.q).2.1); rintro e w9 ⟨vb, rfl, ho, hb⟩; have F9 := mK (impl_ReadAgg.Fi.below (by with_reducible repeat (first | exact F.out | apply impl_ReadAgg.Fi.drewN | apply impl_ReadAgg.Fi.drew)) hb); clear F hq6 hr6 hf6 hb; have F := F9; clear F9; have HOB := Aside0.mk ho; clear ho; obtain ⟨Ab, cb, eb9⟩ := Kd.R_slice HOB.out; subst eb9) | (go_at_call 60; (with_reducible refine (bytes_Equal.calls _ _ bs _ _ l0 false _ ?side1 ?side2 ?side3 HC0.out A3.out).mono ?_); (case side1 => exact (Kd.R_reads' (rK HOB.out)).2.2); (case side2 => exact (Kd.R_reads' HOB.out).2.1); (case side3 => exact Kd.C_below HR0.out (impl_ReadAgg.Fi.bel (by with_reducible repeat (first | exact F.out | apply impl_ReadAgg.Fi.drewN | apply impl_ReadAgg.Fi.drew)))); rintro e w10 ⟨rfl, hd⟩; have F10 := mK (impl_ReadAgg.Fi.below (by with_reducible repeat (first | exact F.out | apply impl_ReadAgg.Fi.drewN | apply impl_ReadAgg.Fi.drew)) hd.below); clear F hd HOB; have F := F10; clear F10; have hq6 := c6 F.out.bx; have hr6 := c6 F.out.br; have hf6 := f6 F.out.br))
      have BR := Aside0.mk F.out.br; have HB := Aside0.mk F.out.bel; refine bodyPost_ret (results_ct rfl _ _ g2 49 #[.int .i64 0, .int .i64 0, .int .i64 0, .int .i64 0, .slice none 0 0, .bool false] (0, 0) _ rfl (by (with_reducible repeat (first | refine blk_drewN ?_ _ | refine blk_drew ?_)); exact p6 (show _ = some (Obj.cells #[.int .i64 0, .int .i64 0, .int .i64 0, .int .i64 0, .slice none 0 0, .bool false] 49 (0, 0)) from bK BR.out)) Try.underlying49 rfl (by kernel_rfl)) rfl ?_; exact ⟨_, rfl, Kd.Q_nil _ _ _ _ _, bL HB.out⟩
     | true =>
      simp only [if_true, Option.some.injEq, Prod.mk.injEq] at h; obtain ⟨rfl, rfl, rfl, rfl, rfl, rfl, rfl⟩ := h
      go_wp2_with (first | ((with_reducible refine gate_callee (f := 71) rfl ?_); refine goesL_ (some 63) rfl rfl Try.func71 (by kernel_rfl) rfl #[.agg #[.int .i64 (rd acc 0), .int .i64 (rd acc 1), .int .i64 (rd acc 2), .int .i64 (rd acc 3), .slice (some ⟨go, 4, none⟩) D.length (co - 4), .bool (rd l0 0 == 1)]] rfl (by (try simp only [List.map_toArray, List.map_cons, List.map_nil]); first | done | rfl) ?_; (with_reducible refine (impl_GoodAgg.calls k _ _ _ _ _ _ D _ true _ ?side1 ?side2 A1.out).mono ?_); (case side1 => exact (Kd.Q_reads' (impl_ReadAgg.Fi.q (by with_reducible repeat (first | exact F.out | apply impl_ReadAgg.Fi.drewN | apply impl_ReadAgg.Fi.drew)))).2.2); (case side2 => exact (Kd.Q_reads' F.out.q).2.1); rintro e w8 ⟨rfl, hb⟩; refine ⟨_, rfl, ?_⟩; have F8 := mK (impl_ReadAgg.Fi.below (by with_reducible repeat (first | exact F.out | apply impl_ReadAgg.Fi.drewN | apply impl_ReadAgg.Fi.drew)) hb); clear F hq6 hb; have F := F8; clear F8; have hq6 := c6 F.out.bx; have hr6 := c6 F.out.br; have hf6 := f6 F.out.br) | (go_at_call 79; (with_reducible refine (impl_aggBytes.calls k _ _ _ _ _ _ D _ bs _ ?side1 ?side2 A2.out).mono ?_); (case side1 => exact (Kd.Q_reads' (impl_ReadAgg.Fi.q (by with_reducible repeat (first | exact F.out | apply impl_ReadAgg.Fi.drewN | apply impl_ReadAgg.Fi.drew)))).2.2); (case side2 => exact (Kd.Q_reads' F.out.q).2.1); rintro e w9 ⟨vb, rfl, ho, hb⟩; have F9 := mK (impl_ReadAgg.Fi.below (by with_reducible repeat (first | exact F.out | apply impl_ReadAgg.Fi.drewN | apply impl_ReadAgg.Fi.drew)) hb); clear F hq6 hr6 hf6 hb; have F := F9; clear F9; have HOB := Aside0.mk ho; clear ho; obtain ⟨Ab, cb, eb9⟩ := Kd.R_slice HOB.out; subst eb9) | (go_at_call 60; (with_reducible refine (bytes_Equal.calls _ _ bs _ _ l0 true _ ?side1 ?side2 ?side3 HC0.out A3.out).mono ?_); (case side1 => exact (Kd.R_reads' (rK HOB.out)).2.2); (case side2 => exact (Kd.R_reads' HOB.out).2.1); (case side3 => exact Kd.C_below HR0.out (impl_ReadAgg.Fi.bel (by with_reducible repeat (first | exact F.out | apply impl_ReadAgg.Fi.drewN | apply impl_ReadAgg.Fi.drew)))); rintro e w10 ⟨rfl, hd⟩; have F10 := mK (impl_ReadAgg.Fi.below (by with_reducible repeat (first | exact F.out | apply impl_ReadAgg.Fi.drewN | apply impl_ReadAgg.Fi.drew)) hd.below); clear F hd HOB; have F := F10; clear F10; have hq6 := c6 F.out.bx; have hr6 := c6 F.out.br; have hf6 := f6 F.out.br))
      have BR := Aside0.mk F.out.br; have HB := Aside0.mk F.out.bel; refine bodyPost_ret (results_ct rfl _ _ g2 49 #[.int .i64 (rd acc 0), .int .i64 (rd acc 1), .int .i64 (rd acc 2), .int .i64 (rd acc 3), .slice (some ⟨go, 4, none⟩) D.length (co - 4), .bool (rd l0 0 == 1)] (0, 0) _ rfl (by (with_reducible repeat (first | refine blk_drewN ?_ _ | refine blk_drew ?_)); exact p6 (show _ = some (Obj.cells #[.int .i64 0, .int .i64 0, .int .i64 0, .int .i64 0, .slice none 0 0, .bool false] 49 (0, 0)) from bK BR.out)) Try.underlying49 rfl (by kernel_rfl)) rfl ?_
      have on8 := fun (W : World) (hW : Kd.Q (Kd.int .i64) 3 W w.heap.size (fun _ => True) (.slice (some ⟨go, 4, none⟩) D.length (co - 4)) D) (hb : W.heap[g2]? = some (.cells #[.int .i64 0, .int .i64 0, .int .i64 0, .int .i64 0, .slice none 0 0, .bool false] 49 (0, 0))) => On.Qt (((((((On.refl g2 W).set 0 (.int .i64 (rd acc 0))).set 1 (.int .i64 (rd acc 1))).set 2 (.int .i64 (rd acc 2))).set 3 (.int .i64 (rd acc 3))).set 4 (.slice (some ⟨go, 4, none⟩) D.length (co - 4))).set 5 (.bool (rd l0 0 == 1))) hW hb (by decide)
      exact ⟨_, rfl, by (with_reducible repeat (first | apply Kd.Q_drewN | apply Kd.Q_drew)); exact on8 _ (impl_ReadAgg.Fi.q (by with_reducible repeat (first | exact F.out | apply impl_ReadAgg.Fi.drewN | apply impl_ReadAgg.Fi.drew))) (impl_ReadAgg.Fi.br (by with_reducible repeat (first | exact F.out | apply impl_ReadAgg.Fi.drewN | apply impl_ReadAgg.Fi.drew))), bL HB.out⟩
-- NOT PRINTED: function 92 (impl_reader_agg)
-- NOT PRINTED: function 62 (impl_reader_entry)
end Go.Proofs.Ytllmlnagihlokaa.PFnExactBoundsOf
