-- Written for this claim by a program of this session: a scratch copy of the kit's print with patches of this session.
import Derived.Test.YtadkabbeghpgcaaPFnExactKeepBlockx0
namespace Go.Proofs.Ytadkabbeghpgcaa.PFnExactKeepBlock
open Go.RowKit Go.Proofs.YtadkabbeghpgcaaW.PrintWords Go.Proofs.YtadkabbeghpgcaaW.PrintLast Go.Proofs.YtadkabbeghpgcaaW.PrintMore
attribute [local go_sem] max2_int min2_int max_two min_two max_three min_three max_four min_four hw_string_geq hw_string_gtr hw_string_leq   -- for this text's walks alone
set_option linter.unusedVariables false
set_option linter.unusedSimpArgs false

/-! ### spec_l1In: function 60 -/
def spec_l1In.f (a0 : Int) (a1 : Int) (a2 : Int) : Option (Bool) := if a0 ≥ a1 then (some (decide (a0 ≤ a2))) else (some false)
set_option maxHeartbeats 8000000 in
set_option maxRecDepth 100000 in
theorem spec_l1In.calls (a0 : Int) (a1 : Int) (a2 : Int) (r : Bool) (w : World) (h : spec_l1In.f a0 a1 a2 = some r) :
    Calls Try.prog 60 #[.int .i64 a0, .int .i64 a1, .int .i64 a2] w fun e w' => e = .returned (.bool r) ∧ Drawn0 w w' := by
  have H : (if a0 ≥ a1 then (some (decide (a0 ≤ a2))) else (some false)) = some r := h
  clear h
  by_cases c4 : a0 ≥ a1
  · rw [if_pos c4] at H
    have c4b0 : decide (a1 ≤ a0) = true := decide_eq_true c4
    clear c4
    obtain rfl := Option.some.inj H
    go_enter Try.func60, Try.ntmps60
    go_wp2
    go_ret
    exact ⟨by first | rfl | (simp; done) | (simp [*]; done), by repeat (first | exact Drawn0.refl _ | apply Drawn0.step)⟩
  · rw [if_neg c4] at H
    have c4b0 : decide (a1 ≤ a0) = false := decide_eq_false c4
    clear c4
    obtain rfl := Option.some.inj H
    go_enter Try.func60, Try.ntmps60
    go_wp2
    go_ret
    exact ⟨by first | rfl | (simp; done) | (simp [*]; done), by repeat (first | exact Drawn0.refl _ | apply Drawn0.step)⟩

/-! ### spec_KeepBlock: function 30, by hand -/
def spec_KeepBlock.hd (Y : List Int) : Int := Y.headD 0
/-- no number stands twice -/
def spec_KeepBlock.nd : List Int → List Int → Bool
  | _, [] => true
  | s, x :: t => if s.contains x = true then false else spec_KeepBlock.nd (s ++ [x]) t
def spec_KeepBlock.o (l : List Int) (b : Int) : List Int := l.filter (fun x => x != b)
def spec_KeepBlock.f (l : List Int) (m b : Int) : Option (List Int × Int × Bool) := (spec_l1In.f m 1 50).bind fun g => if g = true then (if (l.length : Int) > m then some ([], 0, false) else if l.length ≤ 1048576 then (if spec_KeepBlock.nd [] l = true then (if ((spec_KeepBlock.o l b ++ [b]).length : Int) > m then some ((spec_KeepBlock.o l b ++ [b]).drop 1, spec_KeepBlock.hd (spec_KeepBlock.o l b ++ [b]), true) else some (spec_KeepBlock.o l b ++ [b], -1, true)) else some ([], 0, false)) else none) else some ([], 0, false)
theorem spec_KeepBlock.nd_at (l : List Int) (i : Nat) (hi : i < l.length) : spec_KeepBlock.nd (l.take i) (l.drop i) = if (l.take i).contains (rd l i) = true then false else spec_KeepBlock.nd (l.take (i + 1)) (l.drop (i + 1)) := by
  have hr : rd l (i : Int) = l[i] := by simp [rd, hi]
  rw [List.drop_eq_getElem_cons hi, spec_KeepBlock.nd, hr, List.take_succ_eq_append_getElem hi]
theorem spec_KeepBlock.o_at (l : List Int) (b : Int) (i : Nat) (hi : i < l.length) : spec_KeepBlock.o (l.take (i + 1)) b = if (rd l i != b) = true then spec_KeepBlock.o (l.take i) b ++ [rd l i] else spec_KeepBlock.o (l.take i) b := by
  have hr : rd l (i : Int) = l[i] := by simp [rd, hi]
  rw [hr, List.take_succ_eq_append_getElem hi]
  unfold spec_KeepBlock.o
  rw [List.filter_append]
  by_cases h : (l[i] != b) = true
  · rw [if_pos h]; simp [h]
  · rw [if_neg h]; simp [h]
theorem spec_KeepBlock.o_len (l : List Int) (b : Int) : (spec_KeepBlock.o l b).length ≤ l.length := List.length_filter_le _ _
theorem spec_KeepBlock.cell_lt2 {w : World} {p : Addr} {v : Value} (h : w.cell? p = some v) : p.block < w.heap.size := by
  apply Classical.byContradiction
  intro hn
  rw [World.cell?, Array.getElem?_eq_none (by omega)] at h
  cases h
set_option maxHeartbeats 8000000 in
set_option maxRecDepth 100000 in
theorem spec_KeepBlock.calls (A0 : Option Addr) (c0 : Nat) (l0 : List Int) (a1 : Int) (a2 : Int) (r1 : List Int) (r2 : Int) (r3 : Bool) (w : World) (hr0 : Kd.C (Kd.int .i64) w A0 l0.length l0) (hc0 : l0.length ≤ c0) (h : spec_KeepBlock.f l0 a1 a2 = some (r1, r2, r3)) :
    Calls Try.prog 30 #[.slice A0 l0.length c0, .int .i64 a1, .int .i64 a2] w fun e w' => ∃ v0_ : Value, e = .returned (.tuple #[v0_, .int .i64 r2, .bool r3]) ∧ Kd.R (Kd.int .i64) 3 w' w.heap.size (fun _ => True) v0_ r1 ∧ Below w.heap.size w w' := by
  unfold spec_KeepBlock.f at h
  obtain ⟨g, hg1, h⟩ := Option.bind_eq_some_iff.mp h
  have A1 := Aside0.mk hg1
  have HR := Aside0.mk hr0
  have HC := Aside0.mk hc0
  have HB := Aside0.mk (Below.refl w.heap.size w)
  clear hg1 hr0 hc0
  cases g with
  | false =>
    rw [if_neg (by decide)] at h
    simp only [Option.some.injEq, Prod.mk.injEq] at h
    obtain ⟨rfl, rfl, rfl⟩ := h
    go_enter Try.func30, Try.ntmps30
    go_wp2_with (first | ((with_reducible refine gate_callee (f := 60) rfl ?_); refine goesL_ (some 15) rfl rfl Try.func60 (by kernel_rfl) rfl #[.int .i64 a1, .int .i64 1, .int .i64 50] rfl (by (try simp only [List.map_toArray, List.map_cons, List.map_nil]); first | done | rfl) ?_; (with_reducible refine (spec_l1In.calls a1 1 50 false _ A1.out).mono ?_); rintro e w5 ⟨rfl, hd⟩; refine ⟨_, rfl, ?_⟩; have hb := (show Below _ _ w5 from by first | exact hd | exact Drawn0.below hd); clear hd; have nHB := Aside0.mk (below_step (by with_reducible repeat (first | exact HB.out | apply below_alloc | apply pw_below_drewN | apply below_drew1)) hb); clear HB; have HB := nHB; clear nHB hb))
    refine bodyPost_ret (results_tmp3 rfl _ _ _) rfl ?_
    exact ⟨.slice none 0 0, by first | rfl | (simp; done), Kd.R_nil _ _ _ _ _, (by with_reducible repeat (first | exact HB.out | apply below_alloc | apply pw_below_drewN | apply below_drew1))⟩
  | true =>
    rw [if_pos rfl] at h
    cases hm : decide ((l0.length : Int) > a1) with
    | true =>
      rw [if_pos (of_decide_eq_true hm)] at h
      simp only [Option.some.injEq, Prod.mk.injEq] at h
      obtain ⟨rfl, rfl, rfl⟩ := h
      go_enter Try.func30, Try.ntmps30
      go_wp2_with (first | ((with_reducible refine gate_callee (f := 60) rfl ?_); refine goesL_ (some 15) rfl rfl Try.func60 (by kernel_rfl) rfl #[.int .i64 a1, .int .i64 1, .int .i64 50] rfl (by (try simp only [List.map_toArray, List.map_cons, List.map_nil]); first | done | rfl) ?_; (with_reducible refine (spec_l1In.calls a1 1 50 true _ A1.out).mono ?_); rintro e w5 ⟨rfl, hd⟩; refine ⟨_, rfl, ?_⟩; have hb := (show Below _ _ w5 from by first | exact hd | exact Drawn0.below hd); clear hd; have nHB := Aside0.mk (below_step (by with_reducible repeat (first | exact HB.out | apply below_alloc | apply pw_below_drewN | apply below_drew1)) hb); clear HB; have HB := nHB; clear nHB hb))
      refine bodyPost_ret (results_tmp3 rfl _ _ _) rfl ?_
      exact ⟨.slice none 0 0, by first | rfl | (simp; done), Kd.R_nil _ _ _ _ _, (by with_reducible repeat (first | exact HB.out | apply below_alloc | apply pw_below_drewN | apply below_drew1))⟩
    | false =>
      rw [if_neg (of_decide_eq_false hm)] at h
      by_cases hsz : l0.length ≤ 1048576
      · rw [if_pos hsz] at h
        have SZ := Aside0.mk hsz
        clear hsz
        obtain ⟨nd, hnd⟩ : ∃ b, spec_KeepBlock.nd [] l0 = b := ⟨_, rfl⟩
        rw [hnd] at h
        have H := Aside0.mk h
        have ND := Aside0.mk hnd
        clear h hnd
        go_enter Try.func30, Try.ntmps30
        go_upto_block 0 with (first | ((with_reducible refine gate_callee (f := 60) rfl ?_); refine goesL_ (some 15) rfl rfl Try.func60 (by kernel_rfl) rfl #[.int .i64 a1, .int .i64 1, .int .i64 50] rfl (by (try simp only [List.map_toArray, List.map_cons, List.map_nil]); first | done | rfl) ?_; (with_reducible refine (spec_l1In.calls a1 1 50 true _ A1.out).mono ?_); rintro e w5 ⟨rfl, hd⟩; refine ⟨_, rfl, ?_⟩; have hb := (show Below _ _ w5 from by first | exact hd | exact Drawn0.below hd); clear hd; have nHB := Aside0.mk (below_step (by with_reducible repeat (first | exact HB.out | apply below_alloc | apply pw_below_drewN | apply below_drew1)) hb); clear HB; have HB := nHB; clear nHB hb))
        go_wp2
        go_loopg [9, 25] (l0.length) (fun gg v9 v25 w' => ∃ (i : Nat) (out : List Int), i ≤ l0.length ∧ l0.length - i ≤ gg ∧ v25 = .int .i64 i ∧ Aside0 (out = spec_KeepBlock.o (l0.take i) a2) ∧ Aside0 (spec_KeepBlock.nd (l0.take i) (l0.drop i) = nd) ∧ Aside0 (Kd.R (Kd.int .i64) 3 w' w.heap.size (fun _ => True) v9 out) ∧ Aside0 (Below w.heap.size w w'))
        case atStart => exact ⟨0, [], Nat.zero_le _, by omega, rfl, ⟨rfl⟩, ⟨ND.out⟩, ⟨Kd.R_nil _ _ _ _ _⟩, ⟨(by with_reducible repeat (first | exact HB.out | apply below_alloc | apply pw_below_drewN | apply below_drew1))⟩⟩
        case round =>
          clear HB ND
          obtain ⟨i, out, hi, hg, rfl, NO, ND, HO, HB⟩ := hrel
          obtain ⟨Ao, co, eo⟩ := Kd.R_slice HO.out
          subst eo
          by_cases hlt : i < l0.length
          · have hltz : (i : Int) < (l0.length : Int) := by omega
            have hk0 : (0 : Int) ≤ (i : Int) := by omega
            have hib : i ≤ 1048576 := by have := SZ.out; omega
            have hic : i ≤ c0 := by have := HC.out; omega
            have hicz : (i : Int) ≤ (c0 : Int) := by omega
            have HRr := Aside0.mk (Kd.C_below HR.out HB.out)
            obtain ⟨ad, e, hx⟩ := Kd.at_int HRr.out (i : Int) hk0 hltz
            cases e
            have hx2 := hx
            rw [Int.toNat_natCast] at hx2
            have hn := spec_KeepBlock.nd_at l0 i hlt
            have hO2 := spec_KeepBlock.o_at l0 a2 i hlt
            have AT := Aside0.mk (show ∀ j : Nat, j < l0.length → wr.cell? (ad.add j) = some (.int .i64 (rd l0 j)) from fun j hj => by
              obtain ⟨ad2, e2, hy⟩ := Kd.at_int HRr.out (j : Int) (by omega) (by omega)
              cases e2
              rw [Int.toNat_natCast] at hy
              exact hy)
            rw [ND.out] at hn
            generalize hy : rd l0 (i : Int) = y at hx hx2 hn hO2
            have HY := Aside0.mk hy
            clear hy
            cases hdup : (l0.take i).contains y with
            | true =>
              rw [hdup, if_pos rfl] at hn
              have h := H.out
              rw [hn, if_neg (by decide)] at h
              simp only [Option.some.injEq, Prod.mk.injEq] at h
              obtain ⟨rfl, rfl, rfl⟩ := h
              obtain ⟨p, hp, hpy⟩ : ∃ p : Nat, p < i ∧ rd l0 (p : Int) = y := by
                rw [List.contains_iff_mem] at hdup
                obtain ⟨p, hp, he⟩ := List.mem_iff_getElem.1 hdup
                rw [List.length_take] at hp
                exact ⟨p, by omega, by rw [← he]; simp [rd, show p < l0.length by omega]⟩
              have HP := Aside0.mk hpy
              clear hpy hn hO2 hdup H
              go_wp2
              go_loopg [34] i (fun gg v34 w' => ∃ j : Nat, j ≤ p ∧ i - j ≤ gg ∧ v34 = .int .i64 j ∧ Aside0 (Below wr.heap.size wr w'))
              case atStart => exact ⟨0, Nat.zero_le _, by omega, rfl, ⟨by with_reducible repeat (first | exact Below.refl _ _ | apply pw_below_drewN | apply below_drew1)⟩⟩
              case round =>
                obtain ⟨j, hj, hg2, rfl, HB2⟩ := hrel
                have hjz : (j : Int) < (i : Int) := by omega
                have hj0 : (0 : Int) ≤ (j : Int) := by omega
                have hxj := (HB2.out.cell (p := ad.add j) (spec_KeepBlock.cell_lt2 (AT.out j (by omega)))).trans (AT.out j (by omega))
                have hxj2 := hxj
                rw [← Int.toNat_natCast j] at hxj2
                generalize hz : rd l0 (j : Int) = z at hxj hxj2
                cases hzy : (z == y) with
                | true =>
                  have HBf := Aside0.mk (below_step HB.out HB2.out)
                  go_wp2
                  refine bodyPost_ret (results_tmp3 rfl _ _ _) rfl ?_
                  exact ⟨.slice none 0 0, by first | rfl | (simp; done), Kd.R_nil _ _ _ _ _, by with_reducible repeat (first | exact HBf.out | apply pw_below_drewN | apply below_drew1)⟩
                | false =>
                  have hjp : j ≠ p := fun e => by
                    subst e
                    rw [HP.out] at hz
                    rw [hz] at hzy
                    simp at hzy
                  go_wp2
                  go_roundg (i - (j + 1))
                  case measure => omega
                  case rel => exact ⟨j + 1, by omega, by omega, by go_num, ⟨by with_reducible repeat (first | exact HB2.out | apply pw_below_drewN | apply below_drew1)⟩⟩
            | false =>
              rw [hdup, if_neg (by decide)] at hn
              have hno : ∀ j : Nat, j < i → rd l0 (j : Int) ≠ y := fun j hj e => by
                have : (l0.take i).contains y = true := by
                  rw [List.contains_iff_mem, ← e]
                  refine List.mem_iff_getElem.2 ⟨j, by rw [List.length_take]; omega, ?_⟩
                  simp [rd, show j < l0.length by omega]
                rw [hdup] at this
                cases this
              have NN := Aside0.mk hno
              have ND2 := Aside0.mk hn.symm
              have NO2 := Aside0.mk hO2
              clear hno hn hO2 hdup ND
              go_wp2
              go_loopg [34] i (fun gg v34 w' => ∃ j : Nat, j ≤ i ∧ i - j ≤ gg ∧ v34 = .int .i64 j ∧ Aside0 (Below wr.heap.size wr w'))
              case atStart => exact ⟨0, Nat.zero_le _, by omega, rfl, ⟨by with_reducible repeat (first | exact Below.refl _ _ | apply pw_below_drewN | apply below_drew1)⟩⟩
              case round =>
                obtain ⟨j, hj, hg2, rfl, HB2⟩ := hrel
                by_cases hji : j < i
                · have hjz : (j : Int) < (i : Int) := by omega
                  have hj0 : (0 : Int) ≤ (j : Int) := by omega
                  have hxj := (HB2.out.cell (p := ad.add j) (spec_KeepBlock.cell_lt2 (AT.out j (by omega)))).trans (AT.out j (by omega))
                  have hxj2 := hxj
                  rw [← Int.toNat_natCast j] at hxj2
                  have hne := NN.out j hji
                  generalize rd l0 (j : Int) = z at hxj hxj2 hne
                  have hzy : (z == y) = false := by simpa using hne
                  go_wp2
                  go_roundg (i - (j + 1))
                  case measure => omega
                  case rel => exact ⟨j + 1, by omega, by omega, by go_num, ⟨by with_reducible repeat (first | exact HB2.out | apply pw_below_drewN | apply below_drew1)⟩⟩
                · have hjz : ¬ (j : Int) < (i : Int) := by omega
                  have nHO := Aside0.mk (Kd.R_below HO.out HB2.out)
                  have nHB := Aside0.mk (below_step HB.out HB2.out)
                  have hln : out.length ≤ l0.length := by rw [NO.out]; exact Nat.le_trans (spec_KeepBlock.o_len _ _) (by rw [List.length_take]; omega)
                  have LO := Aside0.mk hln
                  clear HO HB hx hx2 AT HRr hln NN
                  have HO := nHO
                  have HB := nHB
                  clear nHO nHB
                  cases hyb : (y != a2) with
                  | true =>
                    have h2 := NO2.out
                    rw [hyb, if_pos rfl, ← NO.out] at h2
                    have NO3 := Aside0.mk h2
                    clear h2 NO2
                    go_wp2_with (first | ((with_reducible refine gate_builtin (b := .append) (xs := #[.tmp 45, .tmp 47]) rfl ?_); at_builtin; refine Kd.R_append (Kd.int .i64) (w0 := w) w.heap.size rfl (.tmp 45) (.tmp 47) 23 3 (.int .i64 0) 8 rfl Try.underlying23 info3 rfl (by decide) (by omega) (.slice Ao out.length co) out y [.int .i64 y] (fun _ => True) (fun _ => False) rfl rfl ?aP (fun _ hk => hk.elim) ?aF ?aO ?aB ?aS ?aL ?_; (case aP => exact rfl); (case aB => exact (by with_reducible repeat (first | exact HB.out | apply below_alloc | apply pw_below_drewN | apply below_drew1))); (case aF => exact (fun _ _ => trivial)); (case aO => exact (by (with_reducible repeat (first | apply Kd.R_drewN | apply Kd.R_drew)); exact HO.out)); (case aS => exact below_size (by with_reducible repeat (first | exact HB.out | apply below_alloc | apply pw_below_drewN | apply below_drew1))); (case aL => have := LO.out; have := SZ.out; omega); intro v12 w12 ho hb hg hat; clear HO HB hg hat; have HO := Aside0.mk ho; have HB := Aside0.mk hb; clear ho hb))
                    go_roundg (l0.length - (i + 1))
                    case measure => omega
                    case rel => exact ⟨i + 1, out ++ [y], by omega, by omega, by go_num, ⟨NO3.out.symm⟩, ND2, ⟨by (with_reducible repeat (first | apply Kd.R_drewN | apply Kd.R_drew)); exact HO.out⟩, ⟨(by with_reducible repeat (first | exact HB.out | apply below_alloc | apply pw_below_drewN | apply below_drew1))⟩⟩
                  | false =>
                    have h2 := NO2.out
                    rw [hyb, if_neg (by decide), ← NO.out] at h2
                    have NO3 := Aside0.mk h2
                    clear h2 NO2
                    go_wp2
                    go_roundg (l0.length - (i + 1))
                    case measure => omega
                    case rel => exact ⟨i + 1, out, by omega, by omega, by go_num, ⟨NO3.out.symm⟩, ND2, ⟨by (with_reducible repeat (first | apply Kd.R_drewN | apply Kd.R_drew)); exact HO.out⟩, ⟨(by with_reducible repeat (first | exact HB.out | apply below_alloc | apply pw_below_drewN | apply below_drew1))⟩⟩
          · have hltz : ¬ (i : Int) < (l0.length : Int) := by omega
            have hie : i = l0.length := by omega
            have h1 := ND.out
            have h2 := NO.out
            rw [hie, List.drop_eq_nil_of_le (Nat.le_refl _)] at h1
            rw [hie, List.take_length] at h2
            have h3 : nd = true := h1.symm
            subst h3
            have h := H.out
            rw [if_pos rfl, ← h2] at h
            have hln : out.length ≤ l0.length := by rw [h2]; exact spec_KeepBlock.o_len _ _
            have LO := Aside0.mk hln
            clear h1 h2 hln hie ND NO H
            obtain ⟨Y, hY⟩ : ∃ y : List Int, y = out ++ [a2] := ⟨_, rfl⟩
            rw [← hY] at h
            have NY := Aside0.mk hY
            clear hY
            cases hgt : decide ((Y.length : Int) > a1) with
            | false =>
              rw [if_neg (of_decide_eq_false hgt)] at h
              simp only [Option.some.injEq, Prod.mk.injEq] at h
              obtain ⟨rfl, rfl, rfl⟩ := h
              go_wp2_with (first | ((with_reducible refine gate_builtin (b := .append) (xs := #[.tmp 50, .tmp 52]) rfl ?_); at_builtin; refine Kd.R_append (Kd.int .i64) (w0 := w) w.heap.size rfl (.tmp 50) (.tmp 52) 23 3 (.int .i64 0) 8 rfl Try.underlying23 info3 rfl (by decide) (by omega) (.slice Ao out.length co) out a2 [.int .i64 a2] (fun _ => True) (fun _ => False) rfl rfl ?aP (fun _ hk => hk.elim) ?aF ?aO ?aB ?aS ?aL ?_; (case aP => exact rfl); (case aB => exact (by with_reducible repeat (first | exact HB.out | apply below_alloc | apply pw_below_drewN | apply below_drew1))); (case aF => exact (fun _ _ => trivial)); (case aO => exact (by (with_reducible repeat (first | apply Kd.R_drewN | apply Kd.R_drew)); exact HO.out)); (case aS => exact below_size (by with_reducible repeat (first | exact HB.out | apply below_alloc | apply pw_below_drewN | apply below_drew1))); (case aL => have := LO.out; have := SZ.out; omega); intro v12 w12 ho hb hg hat; rw [← NY.out] at ho; clear HO HB hg hat; have HO := Aside0.mk ho; have HB := Aside0.mk hb; clear ho hb; obtain ⟨A12, c12, e12⟩ := Kd.R_slice HO.out; subst e12))
              refine bodyPost_ret (results_tmp3 rfl _ _ _) rfl ?_
              exact ⟨.slice A12 Y.length c12, by first | rfl | (simp; done), by (with_reducible repeat (first | apply Kd.R_drewN | apply Kd.R_drew)); exact HO.out, (by with_reducible repeat (first | exact HB.out | apply below_alloc | apply pw_below_drewN | apply below_drew1))⟩
            | true =>
              rw [if_pos (of_decide_eq_true hgt)] at h
              simp only [Option.some.injEq, Prod.mk.injEq] at h
              obtain ⟨rfl, rfl, rfl⟩ := h
              go_wp2_with (first | ((with_reducible refine gate_builtin (b := .append) (xs := #[.tmp 50, .tmp 52]) rfl ?_); at_builtin; refine Kd.R_append (Kd.int .i64) (w0 := w) w.heap.size rfl (.tmp 50) (.tmp 52) 23 3 (.int .i64 0) 8 rfl Try.underlying23 info3 rfl (by decide) (by omega) (.slice Ao out.length co) out a2 [.int .i64 a2] (fun _ => True) (fun _ => False) rfl rfl ?aP (fun _ hk => hk.elim) ?aF ?aO ?aB ?aS ?aL ?_; (case aP => exact rfl); (case aB => exact (by with_reducible repeat (first | exact HB.out | apply below_alloc | apply pw_below_drewN | apply below_drew1))); (case aF => exact (fun _ _ => trivial)); (case aO => exact (by (with_reducible repeat (first | apply Kd.R_drewN | apply Kd.R_drew)); exact HO.out)); (case aS => exact below_size (by with_reducible repeat (first | exact HB.out | apply below_alloc | apply pw_below_drewN | apply below_drew1))); (case aL => have := LO.out; have := SZ.out; omega); intro v12 w12 ho hb hg hat; rw [← NY.out] at ho; clear HO HB hg hat; have HO := Aside0.mk ho; have HB := Aside0.mk hb; clear ho hb; obtain ⟨A12, c12, e12⟩ := Kd.R_slice HO.out; subst e12))
              have hYl : Y.length = out.length + 1 := by rw [NY.out]; simp
              obtain ⟨gy, cy, ey, hgb, hgl, cells, hcells⟩ := Kd.R_form HO.out (by omega)
              injection ey with ea en ec
              subst ea
              subst ec
              clear en hcells
              have HO6 := Aside0.mk (Kd.R_drew HO.out)
              have HB6 := Aside0.mk (below_drew1 HB.out)
              obtain ⟨ad, e0, hx⟩ := Kd.at_int (Kd.R_reads' HO6.out).2.2 0 (by omega) (by omega)
              cases e0
              have hx0 : w12.drew.cell? ⟨gy, 0, none⟩ = some (.int .i64 (rd Y 0)) := hx
              have hrd : rd Y 0 = spec_KeepBlock.hd Y := by
                cases Y with
                | nil => simp at hYl
                | cons y t => rfl
              rw [hrd] at hx0
              have hlen : Y.length - 1 = (Y.drop 1).length := by rw [List.length_drop]
              have hcap := (Kd.R_reads' HO6.out).2.1
              have hcp : Y.length - 1 ≤ c12 - 1 := by omega
              have hc1 : (1 : Int) ≤ (Y.length : Int) := by omega
              have hy0 : (0 : Int) < (Y.length : Int) := by omega
              have hy0n : 0 < Y.length := by omega
              have hc1n : 1 ≤ Y.length := by omega
              have HLEN := Aside0.mk hlen
              have hDs : (Y.drop 1).length ≤ 1048576 := by have := LO.out; have := SZ.out; omega
              have DS := Aside0.mk hDs
              clear hx hrd hYl hlen hDs
              refine start_ (n := 10) (S := fun w' => w'.cell? ⟨gy, 0, none⟩ = some (.int .i64 (spec_KeepBlock.hd Y))) (ds := []) #[false, false, false, false, false, false, false, false, false, false] (by kernel_rfl) rfl rfl hx0 (fun hHeld => ?_)
              generalize hw6 : w12.drew = w13 at HO6 HB6 hx0 hHeld ⊢
              clear hw6 HO HB
              have HX := Aside0.mk (show ∀ V, Below w13.heap.size w13 V → V.cell? ⟨gy, 0, none⟩ = some (.int .i64 (spec_KeepBlock.hd Y)) from fun V hV => (hV.cell (p := ⟨gy, 0, none⟩) (spec_KeepBlock.cell_lt2 hx0)).trans hx0)
              have CD := Aside0.mk (show ∀ V, Below w13.heap.size w13 V → Kd.C (Kd.int .i64) V (if c12 = 1 then (some ⟨gy, 0, none⟩ : Option Addr) else some ⟨gy, 1, none⟩) (Y.length - 1) (Y.drop 1) from fun V hV => by rw [HLEN.out]; exact Kd.C_below (Kd.C_drop (m := 1) (Kd.R_reads' HO6.out).2.2 (by omega) hcap) hV)
              refine pure_ (i := 1) (N := some 59) (v := ?_) (a' := ?_) #[false, true, false, false, false, false, false, false, false, false] rfl rfl (by kernel_rfl) (fun _ _ _ h => h) (Or.inl ⟨by rfl, ?_⟩) ?_ ?_
              rotate_left
              · intro w'
                go_simp
                with_reducible rfl
              rotate_left
              · simp only [Act.put, List.setIfInBounds_toArray, List.set_cons_zero, List.set_cons_succ, i64_w, i32_w]
                rfl
              refine pure_ (i := 2) (N := some 60) (v := ?_) (a' := ?_) #[false, true, true, false, false, false, false, false, false, false] rfl rfl (by kernel_rfl) (fun _ _ _ h => h) (Or.inl ⟨by rfl, ?_⟩) ?_ ?_
              rotate_left
              · intro w'
                go_simp
                with_reducible rfl
              rotate_left
              · simp only [Act.put, List.setIfInBounds_toArray, List.set_cons_zero, List.set_cons_succ, i64_w, i32_w]
                rfl
              refine pure_ (i := 4) (N := some 62) (v := ?_) (a' := ?_) #[false, true, true, false, true, false, false, false, false, false] rfl rfl (by kernel_rfl) (fun _ _ _ h => h) (Or.inl ⟨by rfl, ?_⟩) ?_ ?_
              rotate_left
              · intro w'
                go_simp
                with_reducible rfl
              rotate_left
              · simp only [Act.put, List.setIfInBounds_toArray, List.set_cons_zero, List.set_cons_succ, i64_w, i32_w]
                rfl
              refine pure_ (i := 5) (N := some 63) (v := ?_) (a' := ?_) #[false, true, true, false, true, true, false, false, false, false] rfl rfl (by kernel_rfl) (fun _ _ _ h => h) (Or.inl ⟨by rfl, ?_⟩) ?_ ?_
              rotate_left
              · intro w'
                go_simp
                with_reducible rfl
              rotate_left
              · simp only [Act.put, List.setIfInBounds_toArray, List.set_cons_zero, List.set_cons_succ, i64_w, i32_w]
                rfl
              refine take_ (i := 6) (N := some 64) (v := ?_) (a' := ?_) #[false, true, true, false, true, true, true, false, false, false] rfl rfl (by kernel_rfl) (fun _ _ _ h => h) (Or.inl ⟨by rfl, ?_⟩) hHeld ?_ ?_
              rotate_left
              · rintro w' s0
                go_simp
                with_reducible rfl
              rotate_left
              · simp only [Act.put, List.setIfInBounds_toArray, List.set_cons_zero, List.set_cons_succ, i64_w, i32_w]
                rfl
              refine one_ (i := 0) (N := some 58) #[true, true, true, false, true, true, true, false, false, false] rfl rfl (by kernel_rfl) (by decide) (fun K hK => ?_)
              refine Kd.R_lit_step (Kd.int .i64) _ 3 (by rfl) (N := 58) rfl (xs := ([] : List Int)) (inner := []) (ok := fun _ => True) (okp := fun _ => True) ?hr6 (Reps.none _ _) (fun _ hk => hk) trivial (Below.refl _ _) (Nat.le_refl _) (by simp) ?_
              (case hr6 => first | (go_simp; done) | (go_simp; rfl))
              intro v6 w6 ho6 hb6 hg6 hn6
              have WW := Aside0.mk (show Below w13.heap.size w13 w6 from below_step (Below.refl _ _) hb6)
              have HO7 := Aside0.mk (Kd.R_lower (base' := w13.heap.size) ho6 (Nat.le_refl _))
              obtain ⟨A6, c6_, e6⟩ := Kd.R_slice ho6
              subst e6
              clear ho6 hb6 hg6 hn6
              refine hK.out _ _ (HX.out _ WW.out) (fun hHeld => ?_)
              clear hK K
              refine norm_ (a' := ?_) ?_ ?_
              rotate_left
              · show Act.put _ (some 58) _ = _
                simp only [Act.put, List.setIfInBounds_toArray, List.set_cons_zero, List.set_cons_succ, i64_w, i32_w]
                rfl
              refine one_ (i := 3) (N := some 61) #[true, true, true, true, true, true, true, false, false, false] rfl rfl (by kernel_rfl) (by decide) (fun K hK => ?_)
              refine Kd.R_append_rows_step (Kd.int .i64) (w0 := w13) w13.heap.size (by rfl) (.tmp 58) (.tmp 60) 23 3 (.int .i64 0) 8 rfl Try.underlying23 info3 rfl (by decide) (by omega) (.slice A6 ([] : List Int).length c6_) [] (Y.drop 1) (if c12 = 1 then (some ⟨gy, 0, none⟩ : Option Addr) else some ⟨gy, 1, none⟩) (Y.length - 1) (c12 - 1) (fun _ => True) (fun _ => False) rfl rfl ?aO ?aR (fun _ _ h => h) (fun _ h => h.elim) ?aF ?aB ?aS ?aL ?_
              (case aR => exact CD.out _ WW.out)
              (case aB => exact WW.out)
              (case aF => exact (fun _ _ => trivial))
              (case aO => exact HO7.out)
              (case aS => exact WW.out.size)
              (case aL => have := DS.out; have := HLEN.out; simp only [List.length_nil]; omega)
              intro v7 w7 ho7 hb7 hg7 hat7
              rw [List.nil_append] at ho7
              have HO := Aside0.mk (Kd.R_lower ho7 (below_size HB6.out))
              have HB := Aside0.mk (below_step HB6.out hb7)
              have hx7 := HX.out _ hb7
              clear ho7 hg7 hat7 HO7 WW hb7 HX CD
              refine hK.out _ _ hx7 (fun hHeld => ?_)
              clear hK K
              refine norm_ (a' := ?_) ?_ ?_
              rotate_left
              · show Act.put _ (some 61) _ = _
                simp only [Act.put, List.setIfInBounds_toArray, List.set_cons_zero, List.set_cons_succ, i64_w, i32_w]
                rfl
              refine pure_ (i := 7) (N := some 6) (v := ?_) (a' := ?_) #[true, true, true, true, true, true, true, true, false, false] rfl rfl (by kernel_rfl) (fun _ _ _ h => h) (Or.inl ⟨by rfl, ?_⟩) ?_ ?_
              rotate_left
              · intro w'
                go_simp
                with_reducible rfl
              rotate_left
              · simp only [Act.put, List.setIfInBounds_toArray, List.set_cons_zero, List.set_cons_succ, i64_w, i32_w]
                rfl
              refine pure_ (i := 8) (N := some 7) (v := ?_) (a' := ?_) #[true, true, true, true, true, true, true, true, true, false] rfl rfl (by kernel_rfl) (fun _ _ _ h => h) (Or.inl ⟨by rfl, ?_⟩) ?_ ?_
              rotate_left
              · intro w'
                go_simp
                with_reducible rfl
              rotate_left
              · simp only [Act.put, List.setIfInBounds_toArray, List.set_cons_zero, List.set_cons_succ, i64_w, i32_w]
                rfl
              refine pure_ (i := 9) (N := some 8) (v := ?_) (a' := ?_) #[true, true, true, true, true, true, true, true, true, true] rfl rfl (by kernel_rfl) (fun _ _ _ h => h) (Or.inl ⟨by rfl, ?_⟩) ?_ ?_
              rotate_left
              · intro w'
                go_simp
                with_reducible rfl
              rotate_left
              · simp only [Act.put, List.setIfInBounds_toArray, List.set_cons_zero, List.set_cons_succ, i64_w, i32_w]
                rfl
              refine done_ (by kernel_rfl) ?_
              clear hHeld hx7 hx0
              generalize (if c12 = 1 then (some ⟨gy, 0, none⟩ : Option Addr) else some ⟨gy, 1, none⟩) = AX
              go_wp2
              refine bodyPost_ret (results_tmp3 rfl _ _ _) rfl ?_
              exact ⟨v7, by first | rfl | (simp; done), by (with_reducible repeat (first | apply Kd.R_drewN | apply Kd.R_drew)); exact HO.out, (by with_reducible repeat (first | exact HB.out | apply below_alloc | apply pw_below_drewN | apply below_drew1))⟩
      · rw [if_neg hsz] at h; cases h

/-! ### laws_toIntS: function 31 -/
def laws_toIntS.l0 : Nat → List Int → List Int → Int → Option (List Int)
  | 0, _, _, _ => none
  | k + 1, x0, x3, x4 => if x4 < (x0.length : Int) then (if 0 ≤ x4 then (if x4 < (x3.length : Int) then (laws_toIntS.l0 k x0 (x3.set (x4 : Int).toNat (rd x0 x4)) (wrap64 (x4 + 1))) else (none)) else (none)) else (some x3)
def laws_toIntS.f (k : Nat) (l0 : List Int) : Option (List Int) := if 0 ≤ (l0.length : Int) then (if ((l0.length : Int) : Int).toNat ≤ 35184372088832 then (laws_toIntS.l0 k l0 (List.replicate ((l0.length : Int) : Int).toNat 0) 0) else (none)) else (none)
theorem laws_toIntS.mono_l : ∀ k, (∀ y0 y1 y2, LeO (laws_toIntS.l0 k y0 y1 y2) (laws_toIntS.l0 (k + 1) y0 y1 y2))
  | 0 => fun _ _ _ r h => by simp [laws_toIntS.l0] at h
  | k + 1 => by
    have ih0 := laws_toIntS.mono_l k
    · intro y0 y1 y2
      unfold laws_toIntS.l0
      repeat' first
      | (with_reducible exact ih0 _ _ _)
      | (with_reducible exact LeO.refl _)
      | (with_reducible exact LeO.none _)
      | (with_reducible refine LeO.ite ?_ ?_)
      | (with_reducible refine LeO.bind ?_ (fun _ => ?_))
      | exact ih0 _ _ _
      | exact LeO.none _
      | refine LeO.ite ?_ ?_
      | refine LeO.bind ?_ (fun _ => ?_)
theorem laws_toIntS.mono : ∀ a0 k, LeO (laws_toIntS.f k a0) (laws_toIntS.f (k + 1) a0) := by
  intro a0 k
  have ih0 := laws_toIntS.mono_l k
  unfold laws_toIntS.f
  repeat' first
      | (with_reducible exact ih0 _ _ _)
      | (with_reducible exact LeO.refl _)
      | (with_reducible exact LeO.none _)
      | (with_reducible refine LeO.ite ?_ ?_)
      | (with_reducible refine LeO.bind ?_ (fun _ => ?_))
      | exact ih0 _ _ _
      | exact LeO.none _
      | refine LeO.ite ?_ ?_
      | refine LeO.bind ?_ (fun _ => ?_)
set_option maxHeartbeats 8000000 in
set_option maxRecDepth 100000 in
theorem laws_toIntS.calls (k : Nat) (A0 : Option Addr) (c0 : Nat) (l0 : List Int) (r : List Int) (w : World) (hr0 : Kd.C (Kd.int .i64) w A0 l0.length l0) (hc0 : l0.length ≤ c0) (h : laws_toIntS.f k l0 = some r) :
    Calls Try.prog 31 #[.slice A0 l0.length c0] w fun e w' => ∃ v0_ : Value, e = .returned (v0_) ∧ Kd.R (Kd.int .i64) 3 w' w.heap.size (fun _ => True) v0_ r ∧ Below w.heap.size w w' := by
  have HR0 := Aside0.mk hr0
  have HC0 := Aside0.mk hc0
  clear hr0 hc0
  have HB := Aside0.mk (Below.refl w.heap.size w)
  have H : (if 0 ≤ (l0.length : Int) then (if ((l0.length : Int) : Int).toNat ≤ 35184372088832 then (laws_toIntS.l0 k l0 (List.replicate ((l0.length : Int) : Int).toNat 0) 0) else (none)) else (none)) = some r := h
  clear h
  by_cases c2 : 0 ≤ (l0.length : Int)
  · rw [if_pos c2] at H
    have c2b0 := eq_true c2
    have c2b1 : decide (0 ≤ (l0.length : Int)) = true := decide_eq_true c2
    clear c2
    by_cases c3 : ((l0.length : Int) : Int).toNat ≤ 35184372088832
    · rw [if_pos c3] at H
      have c3b0 := eq_true c3
      have c3b1 : decide (((l0.length : Int) : Int).toNat ≤ 35184372088832) = true := decide_eq_true c3
      clear c3
      obtain ⟨y101, hy101⟩ : ∃ y_ : List Int, y_ = (List.replicate ((l0.length : Int) : Int).toNat 0) := ⟨_, rfl⟩
      replace H : (laws_toIntS.l0 k l0 y101 0) = some r := by first | (rw [hy101]; with_reducible exact H) | (have H2_ := (Option.bind_some _ _).symm.trans H; rw [hy101]; with_reducible exact H2_) | (have H2_ := (Option.bind_some _ _).symm.trans H; with_reducible exact H2_) | with_reducible exact H | (rw [hy101]; exact H) | exact H
      have Ny101 := Aside0.mk hy101
      clear hy101
      have H' := Aside0.mk H
      clear H
      go_enter Try.func31, Try.ntmps31
      go_wp2_with (first | ((with_reducible refine gate_dst (N := 7) rfl ?_); refine Kd.R_make (Kd.int .i64) _ 3 rfl (N := 7) rfl 23 _ _ rfl (l0.length : Int) rfl rfl Try.underlying23 (.int .i64 0) 8 info3 rfl (by decide) (by omega) 0 (ok := fun _ => True) (okp := fun _ => True) rfl (fun _ hk => hk) trivial (of_decide_eq_true (by first | (with_reducible assumption) | assumption)) (Nat.le_trans (Nat.mul_le_mul_right _ (of_decide_eq_true (by first | (with_reducible assumption) | assumption) : (l0.length : Int).toNat ≤ 35184372088832)) (by omega)) (Below.refl _ _) (Nat.le_refl _) ?_; intro v102 w4 ho5 hb hg_ hnew_; clear hg_ hnew_; (first | rw [← Ny101.out] at ho5 | (simp only [Int.reduceToNat] at ho5; rw [← Ny101.out] at ho5)); have n0_ := Aside0.mk (Kd.R_lower ho5 (below_size (by repeat (first | (with_reducible first | exact HB.out | apply below_alloc | apply pw_below_drewN | apply below_drew1) | exact HB.out)))); have n1_ := Aside0.mk (below_step (by repeat (first | (with_reducible first | exact HB.out | apply below_alloc | apply pw_below_drewN | apply below_drew1) | exact HB.out)) hb); clear HB; have HO103 := n0_; have HB := n1_; clear n0_ n1_; clear hb ho5))
      go_loopg [4] k (fun kq v4 w' => ∃ (x3_1 : List Int) (x4_1 : Int), v4 = .int .i64 x4_1 ∧ Aside0 (laws_toIntS.l0 kq l0 x3_1 x4_1 = some r) ∧ Aside0 (kq ≤ k) ∧ Aside0 (Kd.R (Kd.int .i64) 3 w' w.heap.size (fun _ => True) v102 x3_1) ∧ Aside0 (Below w.heap.size w w'))
      case atStart => exact ⟨(y101), (0), (by first | rfl | (simp; done) | (simp [*]; done)), H', ⟨Nat.le_refl _⟩, ⟨by (with_reducible repeat (first | apply Kd.R_alloc | apply Kd.R_drewN | apply Kd.R_drew)); exact HO103.out⟩, ⟨by repeat (first | (with_reducible first | exact HB.out | apply below_alloc | apply pw_below_drewN | apply below_drew1) | exact HB.out)⟩⟩
      case round =>
        clear H'
        try clear c2
        try clear c2b0
        try clear c2b1
        try clear p2
        try clear c3
        try clear c3b0
        try clear c3b1
        obtain ⟨x3_1, x4_1, rfl, HA, HK1, HO_3, HB⟩ := hrel
        cases gk with
        | zero => exact absurd HA.out (by simp [laws_toIntS.l0])
        | succ k1 =>
          have H := HA.out
          clear HA
          simp only [laws_toIntS.l0] at H
          by_cases c6 : x4_1 < (l0.length : Int)
          · rw [if_pos c6] at H
            have c6b0 : decide (x4_1 < (l0.length : Int)) = true := decide_eq_true c6
            clear c6
            by_cases c7 : 0 ≤ x4_1
            · rw [if_pos c7] at H
              have c7b0 : decide (0 ≤ x4_1) = true := decide_eq_true c7
              clear c7
              by_cases c8 : x4_1 < (x3_1.length : Int)
              · rw [if_pos c8] at H
                have c8b0 : decide (x4_1 < (x3_1.length : Int)) = true := decide_eq_true c8
                clear c8
                obtain ⟨y105, hy105⟩ : ∃ y_ : List Int, y_ = (x3_1.set (x4_1 : Int).toNat (rd l0 x4_1)) := ⟨_, rfl⟩
                replace H : (laws_toIntS.l0 k1 l0 y105 (wrap64 (x4_1 + 1))) = some r := by first | (rw [hy105]; with_reducible exact H) | (have H2_ := (Option.bind_some _ _).symm.trans H; rw [hy105]; with_reducible exact H2_) | (have H2_ := (Option.bind_some _ _).symm.trans H; with_reducible exact H2_) | with_reducible exact H | (rw [hy105]; exact H) | exact H
                have Ny105 := Aside0.mk hy105
                clear hy105
                have H' := Aside0.mk H
                clear H
                have p104 : 0 ≤ (x4_1 : Int) := of_decide_eq_true (by first | (with_reducible assumption) | assumption)
                have q104 : x4_1 < (l0.length : Int) := of_decide_eq_true (by first | (with_reducible assumption) | assumption)
                obtain ⟨ad104, e104, hx104_0⟩ := Kd.at_int HR0.out x4_1 p104 q104
                cases e104
                try (replace hx104_0 := (HB.out.cell (World.block_lt_of_cell? w _ hx104_0)).trans hx104_0)
                replace p104 := eq_true p104
                replace q104 := eq_true q104
                have p9 : 0 ≤ (x4_1 : Int) := of_decide_eq_true (by first | (with_reducible assumption) | assumption)
                have q9 : (x4_1 : Int) < ((x3_1.length : Int) : Int) := of_decide_eq_true (by first | (with_reducible assumption) | assumption)
                obtain ⟨go9, co9, eo9, gb9, gl9, cl9, HG9⟩ := Kd.R_form HO_3.out (by omega)
                (first | cases eo9 | (injection eo9 with ea_ en_ ec_; (first | subst ea_ | (injection ea_ with ea_; subst ea_)); subst ec_; clear en_))
                have GB9 := Aside0.mk gb9
                have GG9 := Aside0.mk HG9
                clear gb9 gl9 HG9
                obtain ⟨hx9_0, hf9_0⟩ := Kd.R_celln 0 HO_3.out (x4_1 : Int) p9 q9
                replace p9 := eq_true p9
                replace q9 := eq_true q9
                have HP10 := Kd.R_putg HO_3.out (x4_1 : Int) (rd l0 x4_1)
                go_wp2_with (first | ((with_reducible refine gate_store (t := 3) (p := 20) rfl ?_); refine store_event (t := 3) (p := 20) (v := ?vo_w11) (w1 := (wr.setCell ⟨go9, (x4_1 : Int).toNat, none⟩ (.int .i64 (rd l0 x4_1)))) ?hg ?ho ?hn ?hr ?_; (case ho => rfl); (case hg => rfl); (case hn => rfl); (case hr => first | (go_simp; done) | (go_simp; rfl)); intro w11 hw; have hg : wr.grownBy w11 (some go9) := (by rw [hw]; exact HP10.2); have hp_ : Kd.R (Kd.int .i64) 3 w11 w.heap.size (fun _ => True) (.slice (some ⟨go9, 0, none⟩) x3_1.length co9) y105 := (by rw [hw, Ny105.out]; exact HP10.1); clear HP10; have n0_ := Aside0.mk (hp_); have n1_ := Aside0.mk ((by rw [hw]; exact below_set (HB.out) GB9.out : Below w.heap.size w w11)); clear HO_3; clear HB; have HO_3 := n0_; have HB := n1_; clear n0_ n1_; clear hg hw hp_))
                go_roundg k1
                case measure => have := HK1.out; omega
                case rel => exact ⟨(y105), (wrap64 (x4_1 + 1)), (by first | rfl | (simp; done) | (simp [*]; done)), H', ⟨by have := HK1.out; omega⟩, ⟨by (with_reducible repeat (first | apply Kd.R_alloc | apply Kd.R_drewN | apply Kd.R_drew)); exact HO_3.out⟩, ⟨by repeat (first | (with_reducible first | exact HB.out | apply below_alloc | apply pw_below_drewN | apply below_drew1) | exact HB.out)⟩⟩
              · rw [if_neg c8] at H
                exact absurd H (by simp)
            · rw [if_neg c7] at H
              exact absurd H (by simp)
          · rw [if_neg c6] at H
            have c6b0 : decide (x4_1 < (l0.length : Int)) = false := decide_eq_false c6
            clear c6
            obtain rfl := Option.some.inj H
            go_wp2
            go_ret
            exact ⟨_, by first | rfl | (simp [errW_none, errW_some] <;> rfl) | (simp [*, errW_none, errW_some] <;> rfl), by (with_reducible repeat (first | apply Kd.R_alloc | apply Kd.R_drewN | apply Kd.R_drew)); exact HO_3.out, by repeat (first | (with_reducible first | exact HB.out | apply below_alloc | apply pw_below_drewN | apply below_drew1) | exact HB.out)⟩
    · rw [if_neg c3] at H
      exact absurd H (by simp)
  · rw [if_neg c2] at H
    exact absurd H (by simp)

-- NOT PRINTED: function 110 (slices_AppendSeq_int_int)

-- NOT PRINTED: function 95 (slices_Collect_int)

/-! ### slices_Sort_int_int: function 96, by hand -/
def slices_Sort_int_int.f (l0 : List Int) : Option (List Int) := if l0.length < 4611686018427387904 then some (l0.mergeSort fun x y => decide (x ≤ y)) else none
theorem slices_Sort_int_int.cells {g cap : Nat} {cur : Array Value} {e : TypeId} {w : World} {l : List Int} (hb : w.heap[g]? = some (.cells cur e (0, 0))) (ht : cur.toList.take (l.length * 1) = encs (Value.int .i64) l) (hn : l.length ≤ cap) (hs : cur.size = cap * 1) : Go.Sort.Holds (Value.int .i64) w g 0 l.toArray := by
  intro j hj
  have hj2 : j < l.length := by simpa using hj
  refine ⟨?_, ?_⟩
  · rw [Nat.zero_add]
    refine (blk_cell hb j).trans ?_
    have h1 : cur[j]? = (cur.toList.take (l.length * 1))[j]? := by
      rw [List.getElem?_take_of_lt (by omega), Array.getElem?_toList]
    rw [h1, ht]
    simp [encs, hj2]
  · rw [Nat.zero_add]
    exact blk_frozen hb j
theorem slices_Sort_int_int.put {cap : Nat} {cur : Array Value} {n : Nat} {d : List Int} (hd : d.length = n) (hn : n ≤ cap) (hs : cur.size = cap * 1) (m : Nat) (hm : m ≤ n) : (Go.Sort.putCells (Value.int .i64) 0 d.toArray cur).toList.take (m * 1) = encs (Value.int .i64) (d.take m) := by
  apply List.ext_getElem?
  intro k
  by_cases hk : k < m
  · have h1 : k < cur.size := by omega
    have h2 : k < d.length := by omega
    rw [List.getElem?_take_of_lt (by omega)]
    simp [encs, Go.Sort.putCells, hk, h1, h2]
  · rw [List.getElem?_eq_none (by simp; omega), List.getElem?_eq_none (by simp [encs]; omega)]
set_option maxHeartbeats 8000000 in
set_option maxRecDepth 100000 in
theorem slices_Sort_int_int.calls (P0_ : Nat → Prop) (u9000_ : Value) (l0 : List Int) (r1 : List Int) (w0 w : World) (hB : Below w0.heap.size w0 w) (ho0 : Kd.R (Kd.int .i64) 3 w w0.heap.size P0_ u9000_ l0) (h : slices_Sort_int_int.f l0 = some (r1)) :
    Calls Try.prog 96 #[u9000_] w fun e w' => e = .returned (.tuple #[]) ∧ Kd.R (Kd.int .i64) 3 w' w0.heap.size (fun k_ => (P0_ k_ ∨ w.heap.size ≤ k_)) u9000_ r1 ∧ Below w0.heap.size w0 w' ∧ Kept w w' (fun k_ => P0_ k_) := by
  unfold slices_Sort_int_int.f at h
  by_cases hsz : l0.length < 4611686018427387904
  · rw [if_pos hsz] at h
    obtain rfl := Option.some.inj h
    clear h
    have ho := Kd.own_of_R ho0
    obtain ⟨hlen, ⟨rfl, h0⟩ | ⟨g, cap, cur, rfl, hbase, hheap, hncap, hcap, hsize, htake⟩⟩ := ho
    · have hnil : l0 = [] := List.eq_nil_of_length_eq_zero h0
      subst hnil
      refine (Go.Proofs.Try.slices_Sort_int_none none 0 w).mono ?_
      rintro e w' ⟨rfl, rfl⟩
      exact ⟨rfl, by simpa using Kd.R_mono ho0 (fun k_ hk => .inl hk), hB, Kept.refl _ _⟩
    · have hg : g < w.heap.size := blk_lt hheap
      refine (Go.Proofs.Try.slices_Sort_int g 0 cap l0 w (slices_Sort_int_int.cells hheap htake hncap hsize) hg hsz).mono ?_
      rintro e w' ⟨rfl, q, os, rfl⟩
      have hml : (l0.mergeSort fun x y => decide (x ≤ y)).length = l0.length := List.length_mergeSort _
      have hw : ∀ i, i < w.heap.size → i ≠ g → (Go.Sort.grow (Go.Sort.putRow (Value.int .i64) (Go.Sort.ahead w q) g 0 (l0.mergeSort fun x y => decide (x ≤ y)).toArray) os).heap[i]? = w.heap[i]? := by
        intro i hi hne
        show (_ ++ os)[i]? = _
        rw [Array.getElem?_append_left (by simpa using hi)]
        show (w.heap.modify g _)[i]? = _
        rw [Array.getElem?_modify, if_neg (fun e => hne e.symm)]
      have hgn : (Go.Sort.grow (Go.Sort.putRow (Value.int .i64) (Go.Sort.ahead w q) g 0 (l0.mergeSort fun x y => decide (x ≤ y)).toArray) os).heap[g]? = some (.cells (Go.Sort.putCells (Value.int .i64) 0 (l0.mergeSort fun x y => decide (x ≤ y)).toArray cur) 3 (0, 0)) := by
        show (_ ++ os)[g]? = _
        rw [Array.getElem?_append_left (by simpa using hg)]
        show (w.heap.modify g _)[g]? = _
        rw [Array.getElem?_modify, if_pos rfl, hheap]
        rfl
      have hsz2 : w.heap.size ≤ (Go.Sort.grow (Go.Sort.putRow (Value.int .i64) (Go.Sort.ahead w q) g 0 (l0.mergeSort fun x y => decide (x ≤ y)).toArray) os).heap.size := by simp
      refine ⟨rfl, ?_, ?_, ⟨hsz2, fun i hi hn => hw i hi (fun e => hn (e ▸ ho0.1 g rfl))⟩⟩
      · refine Kd.R_of_own (enc := Value.int .i64) ⟨by simp [encs], .inr ⟨g, cap, _, by rw [hml], hbase, hgn, by rw [hml]; exact hncap, hcap, by simpa [Go.Sort.putCells] using hsize, ?_⟩⟩ (fun k hk => .inl (ho0.1 k hk))
        have := slices_Sort_int_int.put (d := l0.mergeSort fun x y => decide (x ≤ y)) hml hncap hsize l0.length (Nat.le_refl _)
        rw [hml, this, ← hml, List.take_length]
      · exact ⟨hB.os, hB.tape, hB.output, Nat.le_trans hB.size hsz2, fun i hi => (hw i (Nat.lt_of_lt_of_le hi hB.size) (by omega)).trans (hB.block i hi)⟩
  · rw [if_neg hsz] at h
    cases h

-- NOT PRINTED: function 61 (slices_Sorted_int)

-- NOT PRINTED: function 62 (slices_Values_int_int)

/-! ### slices_Compact_int_int: function 63, by hand -/
def slices_Compact_int_int.f (l0 : List Int) : Option (List Int) := if l0.length ≤ 9223372036854775807 then some (Lib.compact l0) else none
theorem slices_Compact_int_int.cells {g cap : Nat} {cur : Array Value} {e : TypeId} {w : World} {l : List Int} (hb : w.heap[g]? = some (.cells cur e (0, 0))) (ht : cur.toList.take (l.length * 1) = encs (Value.int .i64) l) (hn : l.length ≤ cap) (hs : cur.size = cap * 1) : Go.Sort.Holds (Value.int .i64) w g 0 l.toArray := by
  intro j hj
  have hj2 : j < l.length := by simpa using hj
  refine ⟨?_, ?_⟩
  · rw [Nat.zero_add]
    refine (blk_cell hb j).trans ?_
    have h1 : cur[j]? = (cur.toList.take (l.length * 1))[j]? := by
      rw [List.getElem?_take_of_lt (by omega), Array.getElem?_toList]
    rw [h1, ht]
    simp [encs, hj2]
  · rw [Nat.zero_add]
    exact blk_frozen hb j
theorem slices_Compact_int_int.put {cap : Nat} {cur : Array Value} {n : Nat} {d : List Int} (hd : d.length = n) (hn : n ≤ cap) (hs : cur.size = cap * 1) (m : Nat) (hm : m ≤ n) : (Go.Sort.putCells (Value.int .i64) 0 d.toArray cur).toList.take (m * 1) = encs (Value.int .i64) (d.take m) := by
  apply List.ext_getElem?
  intro k
  by_cases hk : k < m
  · have h1 : k < cur.size := by omega
    have h2 : k < d.length := by omega
    rw [List.getElem?_take_of_lt (by omega)]
    simp [encs, Go.Sort.putCells, hk, h1, h2]
  · rw [List.getElem?_eq_none (by simp; omega), List.getElem?_eq_none (by simp [encs]; omega)]
set_option maxHeartbeats 8000000 in
set_option maxRecDepth 100000 in
theorem slices_Compact_int_int.calls (P0_ : Nat → Prop) (u9000_ : Value) (l0 : List Int) (r1 : List Int) (w0 w : World) (hB : Below w0.heap.size w0 w) (ho0 : Kd.R (Kd.int .i64) 3 w w0.heap.size P0_ u9000_ l0) (h : slices_Compact_int_int.f l0 = some (r1)) :
    Calls Try.prog 63 #[u9000_] w fun e w' => ∃ v0_ : Value, e = .returned (v0_) ∧ Kd.R (Kd.int .i64) 3 w' w0.heap.size (fun k_ => (P0_ k_ ∨ w.heap.size ≤ k_)) v0_ r1 ∧ Below w0.heap.size w0 w' ∧ Kept w w' (fun k_ => P0_ k_) := by
  unfold slices_Compact_int_int.f at h
  by_cases hsz : l0.length ≤ 9223372036854775807
  · rw [if_pos hsz] at h
    obtain rfl := Option.some.inj h
    clear h
    have ho := Kd.own_of_R ho0
    obtain ⟨hlen, ⟨rfl, h0⟩ | ⟨g, cap, cur, rfl, hbase, hheap, hncap, hcap, hsize, htake⟩⟩ := ho
    · have hnil : l0 = [] := List.eq_nil_of_length_eq_zero h0
      subst hnil
      refine (Go.Proofs.Try.slices_Compact_int_empty none 0 w).mono ?_
      rintro e w' ⟨rfl, rfl⟩
      exact ⟨_, rfl, Kd.R_nil _ _ _ _ _, hB, Kept.refl _ _⟩
    · have hg : g < w.heap.size := blk_lt hheap
      refine (Go.Proofs.Try.slices_Compact_int g 0 cap l0 w (slices_Compact_int_int.cells hheap htake hncap hsize) hsz hncap).mono ?_
      rintro e w' ⟨rfl, q, rfl⟩
      have hcl : (Lib.compact l0).length ≤ l0.length := by
        unfold Lib.compact Lib.compactUpTo
        rw [List.length_map]
        exact Nat.le_trans (List.length_filter_le _ _) (by simp)
      obtain ⟨d, hd⟩ : ∃ d, d = Lib.compact l0 ++ List.replicate (l0.length - (Lib.compact l0).length) 0 := ⟨_, rfl⟩
      have hdl : d.length = l0.length := by rw [hd]; simp; omega
      rw [← hd]
      have hw : ∀ i, i ≠ g → (Go.Sort.putRow (Value.int .i64) (Go.Sort.ahead w q) g 0 d.toArray).heap[i]? = w.heap[i]? := by
        intro i hne
        show (w.heap.modify g _)[i]? = _
        rw [Array.getElem?_modify, if_neg (fun e => hne e.symm)]
      have hgn : (Go.Sort.putRow (Value.int .i64) (Go.Sort.ahead w q) g 0 d.toArray).heap[g]? = some (.cells (Go.Sort.putCells (Value.int .i64) 0 d.toArray cur) 3 (0, 0)) := by
        show (w.heap.modify g _)[g]? = _
        rw [Array.getElem?_modify, if_pos rfl, hheap]
        rfl
      have hsz2 : w.heap.size ≤ (Go.Sort.putRow (Value.int .i64) (Go.Sort.ahead w q) g 0 d.toArray).heap.size := by simp
      refine ⟨_, rfl, ?_, ?_, ⟨hsz2, fun i hi hn => hw i (fun e => hn (e ▸ ho0.1 g rfl))⟩⟩
      · refine Kd.R_of_own (enc := Value.int .i64) ⟨by simp [encs], .inr ⟨g, cap, _, rfl, hbase, hgn, Nat.le_trans hcl hncap, hcap, by simpa [Go.Sort.putCells] using hsize, ?_⟩⟩ (fun k hk => .inl (ho0.1 k hk))
        rw [slices_Compact_int_int.put hdl hncap hsize _ hcl, hd]
        simp
      · exact ⟨hB.os, hB.tape, hB.output, Nat.le_trans hB.size hsz2, fun i hi => (hw i (by omega)).trans (hB.block i hi)⟩
  · rw [if_neg hsz] at h
    cases h

/-! ### impl_within: function 64 -/
def impl_within.f (a0 : Int) (a1 : Int) (a2 : Int) : Option (Bool) := if a0 ≥ a1 then (some (decide (a0 ≤ a2))) else (some false)
set_option maxHeartbeats 8000000 in
set_option maxRecDepth 100000 in
theorem impl_within.calls (a0 : Int) (a1 : Int) (a2 : Int) (r : Bool) (w : World) (h : impl_within.f a0 a1 a2 = some r) :
    Calls Try.prog 64 #[.int .i64 a0, .int .i64 a1, .int .i64 a2] w fun e w' => e = .returned (.bool r) ∧ Drawn0 w w' := by
  have H : (if a0 ≥ a1 then (some (decide (a0 ≤ a2))) else (some false)) = some r := h
  clear h
  by_cases c4 : a0 ≥ a1
  · rw [if_pos c4] at H
    have c4b0 : decide (a1 ≤ a0) = true := decide_eq_true c4
    clear c4
    obtain rfl := Option.some.inj H
    go_enter Try.func64, Try.ntmps64
    go_wp2
    go_ret
    exact ⟨by first | rfl | (simp; done) | (simp [*]; done), by repeat (first | exact Drawn0.refl _ | apply Drawn0.step)⟩
  · rw [if_neg c4] at H
    have c4b0 : decide (a1 ≤ a0) = false := decide_eq_false c4
    clear c4
    obtain rfl := Option.some.inj H
    go_enter Try.func64, Try.ntmps64
    go_wp2
    go_ret
    exact ⟨by first | rfl | (simp; done) | (simp [*]; done), by repeat (first | exact Drawn0.refl _ | apply Drawn0.step)⟩

/-! ### slices_Clone_int_int: function 65, by hand -/
def slices_Clone_int_int.f (l0 : List Int) : Option (List Int) := if l0.length < 17592186044416 then some l0 else none
set_option maxHeartbeats 8000000 in
set_option maxRecDepth 100000 in
theorem slices_Clone_int_int.calls (A0 : Option Addr) (c0 : Nat) (l0 : List Int) (r : List Int) (w : World) (hr0 : Kd.C (Kd.int .i64) w A0 l0.length l0) (hc0 : l0.length ≤ c0) (h : slices_Clone_int_int.f l0 = some r) :
    Calls Try.prog 65 #[.slice A0 l0.length c0] w fun e w' => ∃ v0_ : Value, e = .returned (v0_) ∧ Kd.R (Kd.int .i64) 3 w' w.heap.size (fun _ => True) v0_ r ∧ Below w.heap.size w w' := by
  unfold slices_Clone_int_int.f at h
  by_cases hsz : l0.length < 17592186044416
  · rw [if_pos hsz] at h
    obtain rfl := Option.some.inj h
    clear h
    have HB := Aside0.mk (Below.refl w.heap.size w)
    have HS := Aside0.mk hsz
    have HR0 := Aside0.mk hr0
    clear hr0 hsz
    have hnil := Lib.run_eql_slice_nil (P := Try.prog) w 23 3 A0 l0.length c0 0 0 Try.underlying23
    cases A0 with
    | none =>
      have hl0 : l0.length = 0 := by
        by_cases h0 : 0 < l0.length
        · obtain ⟨ad, e, _⟩ := HR0.out.2.2 h0
          cases e
        · omega
      have hnil0 : l0 = [] := List.eq_nil_of_length_eq_zero hl0
      have HL := Aside0.mk hnil0
      clear hl0 hnil0
      simp only [Option.isNone_none] at hnil
      go_enter Try.func65, Try.ntmps65
      go_wp2
      go_ret
      exact ⟨.slice none 0 0, by first | rfl | (simp; done), by rw [HL.out]; exact Kd.R_nil _ _ _ _ _, HB.out⟩
    | some ad =>
      simp only [Option.isNone_some] at hnil
      go_enter Try.func65, Try.ntmps65
      go_wp2_with (first | ((with_reducible refine gate_dst (N := 5) rfl ?_); refine Kd.R_lit (Kd.int .i64) _ 3 ?hg (N := 5) ?hd (xs := ([] : List Int)) (inner := []) (ok := fun _ => True) (okp := fun _ => True) ?hr ?hp (fun _ hk => hk) trivial (Below.refl _ _) (Nat.le_refl _) (by simp) ?_; (case hd => rfl); (case hg => rfl); (case hr => first | (go_simp; done) | (go_simp; rfl)); (case hp => exact (Reps.none _ _)); intro v5 w2 ho3 hb hg_ hnew_; have HO := Aside0.mk ho3; have HB2 := Aside0.mk hb; clear hg_ hnew_ hb ho3) | ((with_reducible refine gate_builtin (b := .append) (xs := #[.tmp 5, .tmp 6]) rfl ?_); at_builtin; refine Kd.R_append_rows (Kd.int .i64) (w0 := w) w.heap.size rfl (.tmp 5) (.tmp 6) 23 3 (.int .i64 0) 8 rfl Try.underlying23 info3 rfl (by decide) (by omega) v5 [] l0 _ _ _ (fun _ => True) (fun _ => False) rfl rfl HO.out ?aR (fun _ _ h => h) (fun _ h => h.elim) (fun _ _ => trivial) HB2.out HB2.out.size ?aL ?_; (case aR => exact (Kd.C_below HR0.out HB2.out)); (case aL => (have := HS.out; simp only [List.length_nil]; omega)); intro v7 w3 ho7 hb7 hg7 hn7; have HO7 := Aside0.mk ho7; have HB7 := Aside0.mk hb7; clear hg7 hn7 ho7 hb7))
      go_ret
      exact ⟨v7, rfl, by simpa only [List.nil_append] using HO7.out, HB7.out⟩
  · rw [if_neg hsz] at h
    cases h

/-! ### slices_Index_int_int: function 66 -/
def slices_Index_int_int.l0 : Nat → List Int → Int → Int → Int → Option (Int)
  | 0, _, _, _, _ => none
  | k + 1, x0, x1, x7, x8 => if x8 < x7 then (if 0 ≤ x8 then (if x8 < (x0.length : Int) then (if x1 = (rd x0 x8) then (some x8) else (slices_Index_int_int.l0 k x0 x1 x7 (wrap64 (x8 + 1)))) else (none)) else (none)) else (some (-1))
def slices_Index_int_int.f (k : Nat) (l0 : List Int) (a1 : Int) : Option (Int) := slices_Index_int_int.l0 k l0 a1 (l0.length : Int) 0
theorem slices_Index_int_int.mono_l : ∀ k, (∀ y0 y1 y2 y3, LeO (slices_Index_int_int.l0 k y0 y1 y2 y3) (slices_Index_int_int.l0 (k + 1) y0 y1 y2 y3))
  | 0 => fun _ _ _ _ r h => by simp [slices_Index_int_int.l0] at h
  | k + 1 => by
    have ih0 := slices_Index_int_int.mono_l k
    · intro y0 y1 y2 y3
      unfold slices_Index_int_int.l0
      repeat' first
      | (with_reducible exact ih0 _ _ _ _)
      | (with_reducible exact LeO.refl _)
      | (with_reducible exact LeO.none _)
      | (with_reducible refine LeO.ite ?_ ?_)
      | (with_reducible refine LeO.bind ?_ (fun _ => ?_))
      | exact ih0 _ _ _ _
      | exact LeO.none _
      | refine LeO.ite ?_ ?_
      | refine LeO.bind ?_ (fun _ => ?_)
theorem slices_Index_int_int.mono : ∀ a0 a1 k, LeO (slices_Index_int_int.f k a0 a1) (slices_Index_int_int.f (k + 1) a0 a1) := by
  intro a0 a1 k
  have ih0 := slices_Index_int_int.mono_l k
  unfold slices_Index_int_int.f
  repeat' first
      | (with_reducible exact ih0 _ _ _ _)
      | (with_reducible exact LeO.refl _)
      | (with_reducible exact LeO.none _)
      | (with_reducible refine LeO.ite ?_ ?_)
      | (with_reducible refine LeO.bind ?_ (fun _ => ?_))
      | exact ih0 _ _ _ _
      | exact LeO.none _
      | refine LeO.ite ?_ ?_
      | refine LeO.bind ?_ (fun _ => ?_)
set_option maxHeartbeats 8000000 in
set_option maxRecDepth 100000 in
theorem slices_Index_int_int.calls (k : Nat) (A0 : Option Addr) (c0 : Nat) (l0 : List Int) (a1 : Int) (r : Int) (w : World) (hr0 : Kd.C (Kd.int .i64) w A0 l0.length l0) (hc0 : l0.length ≤ c0) (h : slices_Index_int_int.f k l0 a1 = some r) :
    Calls Try.prog 66 #[.slice A0 l0.length c0, .int .i64 a1] w fun e w' => e = .returned (.int .i64 r) ∧ Drawn0 w w' := by
  have HR0 := Aside0.mk hr0
  have HC0 := Aside0.mk hc0
  clear hr0 hc0
  have H : (slices_Index_int_int.l0 k l0 a1 (l0.length : Int) 0) = some r := h
  clear h
  have H' := Aside0.mk H
  clear H
  go_enter Try.func66, Try.ntmps66
  go_wp2
  go_loopg [8] k (fun kq v8 w' => ∃ (x8_1 : Int), v8 = .int .i64 x8_1 ∧ Aside0 (slices_Index_int_int.l0 kq l0 a1 (l0.length : Int) x8_1 = some r) ∧ Aside0 (kq ≤ k) ∧ Drawn0 w w')
  case atStart => exact ⟨(0), (by first | rfl | (simp; done) | (simp [*]; done)), H', ⟨Nat.le_refl _⟩, by repeat (first | exact Drawn0.refl _ | apply Drawn0.step)⟩
  case round =>
    clear H'
    try clear p2
    obtain ⟨x8_1, rfl, HA, HK1, ⟨m1, rfl⟩⟩ := hrel
    cases gk with
    | zero => exact absurd HA.out (by simp [slices_Index_int_int.l0])
    | succ k1 =>
      have H := HA.out
      clear HA
      simp only [slices_Index_int_int.l0] at H
      by_cases c3 : x8_1 < (l0.length : Int)
      · rw [if_pos c3] at H
        have c3b0 : decide (x8_1 < (l0.length : Int)) = true := decide_eq_true c3
        clear c3
        by_cases c4 : 0 ≤ x8_1
        · rw [if_pos c4] at H
          have c4b0 : decide (0 ≤ x8_1) = true := decide_eq_true c4
          clear c4
          by_cases c5 : x8_1 < (l0.length : Int)
          · rw [if_pos c5] at H
            have c5b0 : decide (x8_1 < (l0.length : Int)) = true := decide_eq_true c5
            clear c5
            by_cases c6 : a1 = (rd l0 x8_1)
            · rw [if_pos c6] at H
              have c6b0 : (a1 == (rd l0 x8_1)) = true := beq_iff_eq.mpr c6
              have c6b1 : (a1 != (rd l0 x8_1)) = false := bne_eq_false_iff_eq.mpr c6
              clear c6
              obtain rfl := Option.some.inj H
              have p106 : 0 ≤ (x8_1 : Int) := of_decide_eq_true (by first | (with_reducible assumption) | assumption)
              have q106 : x8_1 < (l0.length : Int) := of_decide_eq_true (by first | (with_reducible assumption) | assumption)
              obtain ⟨ad106, e106, hx106_0⟩ := Kd.at_int HR0.out x8_1 p106 q106
              cases e106
              replace p106 := eq_true p106
              replace q106 := eq_true q106
              go_wp2
              go_ret
              exact ⟨by first | rfl | (simp; done) | (simp [*]; done), by repeat (first | exact Drawn0.refl _ | apply Drawn0.step)⟩
            · rw [if_neg c6] at H
              have c6b0 : (a1 == (rd l0 x8_1)) = false := beq_eq_false_iff_ne.mpr c6
              have c6b1 : (a1 != (rd l0 x8_1)) = true := bne_iff_ne.mpr c6
              have H' := Aside0.mk H
              clear H
              have p106 : 0 ≤ (x8_1 : Int) := of_decide_eq_true (by first | (with_reducible assumption) | assumption)
              have q106 : x8_1 < (l0.length : Int) := of_decide_eq_true (by first | (with_reducible assumption) | assumption)
              obtain ⟨ad106, e106, hx106_0⟩ := Kd.at_int HR0.out x8_1 p106 q106
              cases e106
              replace p106 := eq_true p106
              replace q106 := eq_true q106
              go_wp2
              go_roundg k1
              case measure => have := HK1.out; omega
              case rel => exact ⟨(wrap64 (x8_1 + 1)), (by first | rfl | (simp; done) | (simp [*]; done)), H', ⟨by have := HK1.out; omega⟩, by repeat (first | exact Drawn0.refl _ | apply Drawn0.step)⟩
          · rw [if_neg c5] at H
            exact absurd H (by simp)
        · rw [if_neg c4] at H
          exact absurd H (by simp)
      · rw [if_neg c3] at H
        have c3b0 : decide (x8_1 < (l0.length : Int)) = false := decide_eq_false c3
        clear c3
        obtain rfl := Option.some.inj H
        go_wp2
        go_ret
        exact ⟨by first | rfl | (simp; done) | (simp [*]; done), by repeat (first | exact Drawn0.refl _ | apply Drawn0.step)⟩

end Go.Proofs.Ytadkabbeghpgcaa.PFnExactKeepBlock
