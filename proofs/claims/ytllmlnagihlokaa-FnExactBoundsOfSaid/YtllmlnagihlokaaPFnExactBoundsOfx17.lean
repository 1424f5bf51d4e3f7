-- Written by a program of this session.
import Derived.Test.YtllmlnagihlokaaPFnExactBoundsOfx0
import Derived.Test.YtllmlnagihlokaaPFnExactBoundsOfx13
import Derived.Test.YtllmlnagihlokaaPFnExactBoundsOfx14
import Derived.Test.YtllmlnagihlokaaPFnExactBoundsOfx15
import Derived.Test.YtllmlnagihlokaaPFnExactBoundsOfx16
namespace Go.Proofs.Ytllmlnagihlokaa.PFnExactBoundsOf
open Go.RowKit Go.Proofs.YtllmlnagihlokaaW.PrintWords Go.Proofs.YtllmlnagihlokaaW.PrintLast Go.Proofs.YtllmlnagihlokaaW.PrintMore
attribute [local go_sem] max2_int min2_int max_two min_two max_three min_three max_four min_four hw_string_geq hw_string_gtr hw_string_leq
set_option linter.unusedVariables false
set_option linter.unusedSimpArgs false
abbrev bq17_0 : Array Bool := #[false, false, false, false, false, false, false, false, false, false, false, false, false, false, false]
abbrev bq17_16 : Array Bool := #[false, false, false, false, false, false, false, false, false, false, false]
abbrev bq17_27 : Array Bool := #[true, true, true, true, true, true, true, true, true, true, true]
abbrev bq17_28 : Array Bool := #[false, false, false, false, false, false, false, false, false, false, false, false]
abbrev bq17_40 : Array Bool := #[true, true, true, true, true, true, true, true, true, true, true, true]
/-! ### impl_table: function 27, by hand -/
theorem impl_tableck.add_block (a : Addr) (i : Nat) : (a.add i).block = a.block := by unfold Addr.add; split <;> rfl
/-- chunk number j of len entries at ad -/
def impl_tableck.v (ad : Addr) (len j : Nat) : Value := .slice (some (ad.add (4 * 9 * j))) (min 4 (len - 4 * j)) (min 4 (len - 4 * j))
/-- the two boxes of the iterator lie as they lay -/
def impl_tableck.Kp (Bs Bn : Nat) (A B : World) : Prop := B.heap[Bs]? = A.heap[Bs]? ∧ B.heap[Bn]? = A.heap[Bn]?
theorem impl_tableck.Kp.trans {Bs Bn : Nat} {A B C : World} (h : impl_tableck.Kp Bs Bn A B) (k : impl_tableck.Kp Bs Bn B C) : impl_tableck.Kp Bs Bn A C := ⟨k.1.trans h.1, k.2.trans h.2⟩
section
attribute [local go_sem] Oper.semAt_some
set_option maxRecDepth 100000 in
set_option maxHeartbeats 2000000 in
theorem impl_tableck.chunk1_in (n : Nat) (hn : 1 ≤ n) (l Bs Bn len cap : Nat) (ad : Addr) (hcap : len ≤ cap) (hreach : len ≤ 1000000) (J Jx : List Nat → World → Prop)
  (hY : ∀ pre x W, J pre W → pre.length < (len + 3) / 4 → x < (len + 3) / 4 → YieldAt Fence.wide (n - 1) Try.prog l #[impl_tableck.v ad len x] W fun e W' =>
   (e = .returned (.bool true) ∧ J (pre ++ [x]) W' ∧ impl_tableck.Kp Bs Bn W W') ∨ (e = .returned (.bool false) ∧ Jx (pre ++ [x]) W'))
  (hJ : ∀ s W, J s W → J s W.drew)
  (W : World) (hBs : W.cell? ⟨Bs, 0, none⟩ = some (.slice (some ad) len cap)) (hBn : W.cell? ⟨Bn, 0, none⟩ = some (.int .i64 4)) (h0 : J [] W) :
  CallsIn Fence.wide n Try.prog 77 #[.func (.yield l) #[] #[], .pointer (some ⟨Bs, 0, none⟩), .pointer (some ⟨Bn, 0, none⟩)] W fun e W' => (∃ v, e = .returned v) ∧
   ((∃ ys, ys = List.range ((len + 3) / 4) ∧ J ys W') ∨ (∃ pre, (∃ k, pre = List.range k) ∧ Jx pre W')) := by
 refine callsIn_of_wp Try.func77 rfl trivial ?_ rfl
 simp only [Try.ntmps77, List.size_toArray, List.length_cons, List.length_nil, Nat.reduceAdd, Nat.reduceSub, Array.replicate_succ, Array.replicate_zero, List.push_toArray, List.append_toArray, List.nil_append, List.cons_append]
 gi_wp2
 gi_loopw [4] (fun i wr => ∃ k : Nat, k ≤ (len + 3) / 4 ∧ i = .int .i64 (4 * k : Nat) ∧ J (List.range k) wr ∧ impl_tableck.Kp Bs Bn W wr)
  (fun i _ => len + 4 - (intOf i).toNat)
 case atStart => exact ⟨0, by omega, rfl, h0, rfl, rfl⟩
 case round =>
  obtain ⟨k, hk, rfl, hJs, hnx⟩ := hrel; have hcs := (World.cell?_of_block (a := ⟨Bs, 0, none⟩) hnx.1).trans hBs; have hcn := (World.cell?_of_block (a := ⟨Bn, 0, none⟩) hnx.2).trans hBn; have HS := Aside0.mk hcs; have HN := Aside0.mk hcn; have HJ := mK (hJ _ _ hJs); have HJ0 := Aside0.mk hJs; have HX := Aside0.mk hnx; have HY := Aside0.mk hY; have HJJ := Aside0.mk hJ; clear hY hJs hJ h0
  by_cases hlt : 4 * k < len
  ·gi_wp2
   clear hBs hBn; refine startWide_ (n := 7) (S := fun w' => w'.cell? ⟨Bs, 0, none⟩ = some (.slice (some ad) len cap) ∧ w'.cell? ⟨Bn, 0, none⟩ = some (.int .i64 4)) (ds := []) #[false, false, false, false, false, false, false] (by kernel_rfl) (by kernel_rfl) rfl rfl ⟨HS.out, HN.out⟩ (fun hHeld => ?_); have HX1 := mK (show impl_tableck.Kp Bs Bn W wr.drew from HX.out); generalize wr.drew = w1 at HJ hHeld HX1 ⊢; clear hcs hcn
   have q1 : 0 ≤ 4 * (k : Int) ∧ 4 * (k : Int) ≤ (len : Int) := by omega
   have q2 : (4 * (k : Int)).toNat = 4 * k := by omega
   have q3 : ¬ cap = 4 * k := by omega
   refine tk_ 0 13 hHeld ?_
   refine tk_ 1 14 hHeld ?_
   refine pu_ 2 15 ?_
   refine pu_ 3 16 ?_
   refine pu_ 4 17 ?_
   refine pu_ 5 18 ?_
   refine pu_ 6 5 ?_
   refine done_ (by kernel_rfl) ?_; refine OnlyN.normal ?_; obtain ⟨c, hc⟩ : ∃ c, c = min 4 (len - 4 * k) := ⟨_, rfl⟩
   have e1 : (if ((len - 4 * k : Nat) : Int) < 4 then ((len - 4 * k : Nat) : Int) else 4) = (c : Int) := by
    rw [hc]; split <;> omega
   rw [e1]; obtain ⟨s0, s1⟩ := hHeld
   have hc0 : 0 < c := by omega
   have hcl : 4 * k + c ≤ len := by omega
   have q4 : IntKind.i64.wrap (4 * (k : Int) + (c : Int)) = 4 * (k : Int) + (c : Int) := by rw [i64_w]; unfold wrap64; omega
   have q5 : (4 * (k : Int) + (c : Int)).toNat = 4 * k + c := by omega
   have q6 : 0 ≤ 4 * (k : Int) + (c : Int) ∧ 4 * (k : Int) + (c : Int) ≤ (cap : Int) := by omega
   have q7 : 4 * (k : Int) ≤ 4 * (k : Int) + (c : Int) := by omega
   have q8 : ¬ c = 0 := by omega
   obtain ⟨fn, tmps, assign, body, hy, hR⟩ := HY.out _ k w1 HJ.out (by rw [List.length_range]; omega) (by omega)
   have ev : impl_tableck.v ad len k = .slice (some (ad.add (4 * k * 9))) c c := by
    unfold impl_tableck.v
    rw [← hc, show 4 * 9 * k = 4 * k * 9 by omega]
   rw [ev] at hy
   have q9 : 4 * k + c - 4 * k = c := by omega
   clear ev hc e1
   gi_wp2
   refine hR.mono ?_; rintro e W3 (⟨rfl, hJ3, hk3⟩ | ⟨rfl, hJx3⟩)
   ·have s3 := (World.cell?_of_block (a := ⟨Bn, 0, none⟩) hk3.2).trans s1
    have q10 : IntKind.i64.wrap (4 * (k : Int) + 4) = 4 * (k : Int) + 4 := by rw [i64_w]; unfold wrap64; omega
    gi_wp2
    go_roundw
    case rel => exact ⟨k + 1, by omega, by simp; omega, by rw [List.range_succ]; exact hJ3, HX1.out.trans hk3⟩
    case measure => simp [intOf]; omega
   ·gi_wp2
    refine bodyPost_ret (results_none rfl _ _ _) rfl ?_; exact ⟨⟨_, rfl⟩, .inr ⟨_, ⟨k + 1, List.range_succ.symm⟩, hJx3⟩⟩
  ·gi_wp2
   go_end0
   exact ⟨⟨_, rfl⟩, .inl ⟨_, rfl, by rw [show (len + 3) / 4 = k by omega]; exact HJ0.out⟩⟩
theorem impl_tableck.stops (n : Nat) (hn : 1 ≤ n) (Bs Bn len cap : Nat) (ad : Addr) (hcap : len ≤ cap) (hreach : len ≤ 1000000) (w : World) (hBs : w.cell? ⟨Bs, 0, none⟩ = some (.slice (some ad) len cap)) (hBn : w.cell? ⟨Bn, 0, none⟩ = some (.int .i64 4)) :
  SeqStopsK Fence.wide n Try.prog 77 #[.pointer (some ⟨Bs, 0, none⟩), .pointer (some ⟨Bn, 0, none⟩)] (fun j : { j : Nat // j < (len + 3) / 4 } => #[impl_tableck.v ad len j.1]) (impl_tableck.Kp Bs Bn) (fun ys => ys.map (·.1) = List.range ((len + 3) / 4)) (fun _ => True) ((len + 3) / 4) w := fun l J Jx W hW hJ hJx hY h0 => by
 refine (impl_tableck.chunk1_in n hn l Bs Bn len cap ad hcap hreach (fun js V => ∃ ys, ys.map (·.1) = js ∧ J ys V) (fun js V => ∃ ys, Jx ys V) ?_ ?_ W ((hW.cell (World.block_lt_of_cell? w _ hBs)).trans hBs) ((hW.cell (World.block_lt_of_cell? w _ hBn)).trans hBn) ⟨[], rfl, h0⟩).mono ?_
 ·rintro pre x V ⟨ys, rfl, hj⟩ hl hx
  rw [List.length_map] at hl; obtain ⟨fn, tmps, assign, body, hy, hR⟩ := hY ys ⟨x, hx⟩ V hj hl; refine ⟨fn, tmps, assign, body, hy, hR.mono ?_⟩; rintro e V' (⟨he, hj', hk⟩ | ⟨he, hj'⟩); · exact .inl ⟨he, ⟨_, by simp, hj'⟩, hk⟩
  ·exact .inr ⟨he, _, hj'⟩
 ·rintro s V ⟨ys, rfl, hj⟩; exact ⟨ys, rfl, hJ ys V V.drew none hj ⟨rfl, rfl, rfl, Nat.le_refl _, fun _ _ _ => rfl⟩ (fun r e => by cases e)⟩
 ·rintro e W' ⟨he, ⟨js, rfl, ys, hys, hj⟩ | ⟨pre, _, ys, hj⟩⟩
  ·exact ⟨he, .inl ⟨ys, hys, hj⟩⟩
  ·exact ⟨he, .inr ⟨ys, trivial, hj⟩⟩
set_option maxHeartbeats 1000000 in
theorem impl_tableck.made (A : Option Addr) (n c : Nat) (w : World) : Calls Try.prog 47 #[.slice A n c, .int .i64 4] w fun e w' => e = .returned (.func (.func 77) #[] #[.pointer (some ⟨w.heap.size, 0, none⟩), .pointer (some ⟨w.heap.size + 1, 0, none⟩)]) ∧ w' = (w.alloc (.cells #[.slice A n c] 27)).alloc (.cells #[.int .i64 4] 3) := by
 refine (callsIn_wide (n := 1)).1 (callsIn_of_wp Try.func47 rfl trivial ?_ rfl)
 simp only [Try.ntmps47, List.size_toArray, List.length_cons, List.length_nil, Nat.reduceAdd, Nat.reduceSub, Array.replicate_succ, Array.replicate_zero, List.push_toArray, List.append_toArray, List.nil_append, List.cons_append]
 gi_wp2
 go_ret
 exact ⟨by simp, rfl⟩
theorem impl_tableck.made2 (A : Option Addr) (n c : Nat) (w : World) : Calls Try.prog 47 #[.slice A n c, .int .i64 4] w fun e w' => ∃ g h : Nat, e = .returned (.func (.func 77) #[] #[.pointer (some ⟨g, 0, none⟩), .pointer (some ⟨h, 0, none⟩)]) ∧ w'.heap[g]? = some (.cells #[.slice A n c] 27 (0, 0)) ∧ w'.heap[h]? = some (.cells #[.int .i64 4] 3 (0, 0)) ∧ w.heap.size ≤ g ∧ w.heap.size ≤ h ∧ Below w.heap.size w w' := by
 refine (impl_tableck.made A n c w).mono ?_
 rintro e w' ⟨rfl, rfl⟩
 refine ⟨_, _, rfl, ?_, ?_, Nat.le_refl _, Nat.le_succ _, below_alloc (below_alloc (Below.refl _ _) _) _⟩
 ·exact (Below.heap_alloc _ _ _ (by simp)).trans (World.alloc_heap_new w _)
 ·have := World.alloc_heap_new (w.alloc (.cells #[.slice A n c] 27)) (.cells #[.int .i64 4] 3)
  rwa [World.size_alloc] at this
end
set_option maxHeartbeats 2000000 in
set_option maxRecDepth 100000 in
/-- slices.Grow(nil, n) -/
theorem impl_tablecc.grow (n : Int) (h0 : 0 ≤ n) (hn : n ≤ 1000000) (w : World) : Calls Try.prog 84 #[.slice none 0 0, .int .i64 n] w fun e w' => ∃ v, e = .returned v ∧ Kd.R (Kd.int .u8) 5 w' w.heap.size (fun _ => True) v [] ∧ Below w.heap.size w w' := by
 have HB := mK (Below.refl w.heap.size w)
 have p1 : (n < 0) = False := by simp; omega
 have p2 : IntKind.i64.wrap n = n := by rw [i64_w]; unfold wrap64; omega
 have HN := Aside0.mk h0
 have HM := Aside0.mk hn
 clear h0 hn
 by_cases hp : 0 < n
 ·go_enter Try.func84, Try.ntmps84
  go_wp2_with (first | ((with_reducible refine gate_builtin (b := .append) (xs := #[.tmp 20, .tmp 21]) rfl ?_); at_builtin; refine Kd.R_append_zeros (Kd.int .u8) (w0 := w) w.heap.size rfl (.tmp 20) (.tmp 21) 24 3 5 (.int .u8 0) 1 rfl Try.underlying24 Try.underlying3 info5 rfl (by decide) (by omega) (.slice none 0 0) [] 0 (n : Int) (fun _ => True) rfl rfl rfl ?aF ?aO HN.out ?aB ?aS ?aL ?_; (case aB => exact HB.out); (case aF => exact fun _ _ => trivial); (case aO => exact Kd.R_nil _ _ _ _ _); (case aS => exact Nat.le_refl _); (case aL => have := HM.out; have := HN.out; simp; omega); intro v5 w5 ho hb hg hat; obtain ⟨hlen5, ⟨rfl, hl5⟩ | ⟨g5, c5, cur5, rfl, hbase5, hheap5, hnc5, hc5, hs5, ht5⟩⟩ := Kd.own_of_R ho; (exfalso; simp at hl5; omega); have HR := mK (Kd.R_of_own (enc := Value.int .u8) (xs := ([] : List Int)) ⟨by simp [encs], .inr ⟨g5, c5, cur5, rfl, hbase5, hheap5, Nat.zero_le _, hc5, hs5, by simp [encs]⟩⟩ (fun _ _ => trivial) : Kd.R (Kd.int .u8) 5 w5 w.heap.size (fun _ => True) (.slice (some ⟨g5, 0, none⟩) 0 c5) []); have HB5 := Aside0.mk hb; clear hlen5 hbase5 hheap5 hs5 ht5 ho hb hg hat))
  go_ret
  exact ⟨_, rfl, HR.out, HB5.out⟩
 ·go_enter Try.func84, Try.ntmps84
  go_wp2
  go_ret
  exact ⟨_, rfl, Kd.R_nil _ _ _ _ _, HB.out⟩
def impl_tablecc.tot (rs : List (Option Addr × Nat × List Int)) : Nat → Nat
 | 0 => 0
 | k + 1 => impl_tablecc.tot rs k + ((rs[k]?).map (fun r => r.2.2.length)).getD 0
def impl_tablecc.cat (rs : List (Option Addr × Nat × List Int)) : Nat → List Int
 | 0 => []
 | k + 1 => impl_tablecc.cat rs k ++ ((rs[k]?).map (fun r => r.2.2)).getD []
theorem impl_tablecc.tot_succ {rs : List (Option Addr × Nat × List Int)} {k : Nat} (h : k < rs.length) : impl_tablecc.tot rs (k + 1) = impl_tablecc.tot rs k + (rs[k]'h).2.2.length := by
 simp [impl_tablecc.tot, h]
theorem impl_tablecc.cat_succ {rs : List (Option Addr × Nat × List Int)} {k : Nat} (h : k < rs.length) : impl_tablecc.cat rs (k + 1) = impl_tablecc.cat rs k ++ (rs[k]'h).2.2 := by
 simp [impl_tablecc.cat, h]
theorem impl_tablecc.cat_len (rs : List (Option Addr × Nat × List Int)) : ∀ k, k ≤ rs.length → (impl_tablecc.cat rs k).length = impl_tablecc.tot rs k
 | 0, _ => by simp [impl_tablecc.cat, impl_tablecc.tot]
 | k + 1, h => by rw [impl_tablecc.cat_succ (by omega), impl_tablecc.tot_succ (by omega), List.length_append, impl_tablecc.cat_len rs k (by omega)]
theorem impl_tablecc.tot_le (rs : List (Option Addr × Nat × List Int)) : ∀ j k, j ≤ k → k ≤ rs.length → impl_tablecc.tot rs j ≤ impl_tablecc.tot rs k := by
 intro j k hjk
 induction hjk with
 | refl => intro _; exact Nat.le_refl _
 | step hm ih => intro hk; exact Nat.le_trans (ih (by omega)) (by rw [impl_tablecc.tot_succ (by omega)]; omega)
set_option maxHeartbeats 4000000 in
set_option maxRecDepth 100000 in
/-- slices.Concat of rows of bytes -/
theorem impl_tablecc.calls (ad : Addr) (c : Nat) (rs : List (Option Addr × Nat × List Int)) (w : World) (hcell : ∀ j (h : j < rs.length), w.cell? (ad.add j) = some (.slice (rs[j]'h).1 (rs[j]'h).2.2.length (rs[j]'h).2.1))
  (hrd : ∀ j (h : j < rs.length), Kd.C (Kd.int .u8) w (rs[j]'h).1 (rs[j]'h).2.2.length (rs[j]'h).2.2) (htot : impl_tablecc.tot rs rs.length ≤ 1000000) (hn : rs.length ≤ 100) :
  Calls Try.prog 55 #[.slice (some ad) rs.length c] w fun e w' => ∃ v, e = .returned v ∧ Kd.R (Kd.int .u8) 5 w' w.heap.size (fun _ => True) v (impl_tablecc.cat rs rs.length) ∧ Below w.heap.size w w' := by
 have HB := mK (Below.refl w.heap.size w)
 have HC := Aside0.mk hcell
 have HR := Aside0.mk hrd
 have HT := Aside0.mk htot
 have HN := Aside0.mk hn
 clear hcell hrd htot hn
 go_enter Try.func55, Try.ntmps55
 go_wp2
 go_loopg [3, 11] 100 (fun gg v3 v11 w' => ∃ kk : Nat, kk ≤ rs.length ∧ rs.length - kk ≤ gg ∧ v3 = .int .i64 (impl_tablecc.tot rs kk : Nat) ∧ v11 = .int .i64 (kk : Nat) ∧ Aside0 (Below w.heap.size w w'))
 case atStart => exact ⟨0, by omega, by have := HN.out; omega, rfl, rfl, HB⟩
 case round =>
  obtain ⟨kk, hkk, hg, rfl, rfl, HB2⟩ := hrel; have hN := HN.out
  by_cases hlt : kk < rs.length
  ·have h0 : (0 : Int) ≤ (kk : Int) := by omega
   have h1 : (kk : Int) < (rs.length : Int) := by omega
   have hx := (HB2.out.cell (World.block_lt_of_cell? w _ (HC.out kk hlt))).trans (HC.out kk hlt); have ht := impl_tablecc.tot_succ hlt; have hle := Nat.le_trans (impl_tablecc.tot_le rs (kk + 1) rs.length hlt (Nat.le_refl _)) HT.out; generalize (rs[kk]'hlt) = q at hx ht; obtain ⟨A, cc, l⟩ := q
   simp only at hx ht
   have hw1 : IntKind.i64.wrap ((impl_tablecc.tot rs kk : Nat) + (l.length : Int)) = ((impl_tablecc.tot rs (kk + 1) : Nat) : Int) := by rw [i64_w, ht]; unfold wrap64; omega
   have hw2 : (((impl_tablecc.tot rs (kk + 1) : Nat) : Int) < 0) = False := by simp
   have hw3 : IntKind.i64.wrap ((kk : Int) + 1) = ((kk + 1 : Nat) : Int) := by rw [i64_w]; unfold wrap64; omega
   clear ht hle
   go_wp2
   go_roundg (rs.length - (kk + 1))
   case measure => omega
   case rel => exact ⟨kk + 1, by omega, by omega, rfl, by first | rfl | (simp; done), HB2⟩
  ·obtain rfl : kk = rs.length := by omega
   go_wp2_with (go_at_call 84; (with_reducible refine (impl_tablecc.grow ((impl_tablecc.tot rs rs.length : Nat) : Int) (by omega) (by have := HT.out; omega) _).mono ?_); rintro e w5 ⟨v5, rfl, ho5, hb5⟩; have HO5 := mK (Kd.R_lower ho5 HB2.out.size); have HB5 := mK (below_step HB2.out hb5); clear ho5 hb5)
   go_loopg [6, 27] 100 (fun gg v6 v27 w' => ∃ kk : Nat, kk ≤ rs.length ∧ rs.length - kk ≤ gg ∧ v27 = .int .i64 (kk : Nat) ∧ Aside0 (Below w.heap.size w w') ∧ Aside0 (Kd.R (Kd.int .u8) 5 w' w.heap.size (fun _ => True) v6 (impl_tablecc.cat rs kk)))
   case atStart => exact ⟨0, by omega, by omega, rfl, HB5, by simpa [impl_tablecc.cat] using HO5⟩
   case round =>
    obtain ⟨kk, hkk, hg, rfl, HB6, HO6⟩ := hrel
    by_cases hlt2 : kk < rs.length
    ·have h0 : (0 : Int) ≤ (kk : Int) := by omega
     have h1 : (kk : Int) < (rs.length : Int) := by omega
     have hx := (HB6.out.cell (World.block_lt_of_cell? w _ (HC.out kk hlt2))).trans (HC.out kk hlt2); have ht := impl_tablecc.tot_succ hlt2; have hcs := impl_tablecc.cat_succ hlt2; have hle := Nat.le_trans (impl_tablecc.tot_le rs (kk + 1) rs.length hlt2 (Nat.le_refl _)) HT.out; have hrk := HR.out kk hlt2; generalize (rs[kk]'hlt2) = q at hx ht hrk hcs; obtain ⟨A, cc, l⟩ := q
     simp only at hx ht hrk hcs
     have hw3 : IntKind.i64.wrap ((kk : Int) + 1) = ((kk + 1 : Nat) : Int) := by rw [i64_w]; unfold wrap64; omega
     have hlen := impl_tablecc.cat_len rs kk (by omega); have LM := mK (show ((impl_tablecc.cat rs kk).length + l.length) * 1 ≤ 140737488355328 by omega); have HRK := Aside0.mk hrk; have HCS := Aside0.mk hcs; clear ht hle hrk hcs hlen hlt hlt2
     go_wp2_with (first | ((with_reducible refine gate_builtin (b := .append) (xs := #[.tmp 31, .tmp 32]) rfl ?_); at_builtin; refine Kd.R_append_rows (Kd.int .u8) (w0 := w) w.heap.size rfl (.tmp 31) (.tmp 32) 24 5 (.int .u8 0) 1 rfl Try.underlying24 info5 rfl (by decide) (by omega) _ (impl_tablecc.cat rs kk) l _ _ _ (fun _ => True) (fun _ => False) rfl rfl ?aO ?aR (fun _ _ h => h) (fun _ h => h.elim) ?aF ?aB ?aS ?aL ?_; (case aR => exact Kd.C_below HRK.out HB6.out); (case aB => exact HB6.out); (case aF => exact fun _ _ => trivial); (case aO => exact HO6.out); (case aS => exact HB6.out.size); (case aL => exact LM.out); intro v7 w7 ho hb hg hat; rw [← HCS.out] at ho; have HO7 := Aside0.mk ho; have HB7 := Aside0.mk hb; clear ho hb hg hat hx))
     go_roundg (rs.length - (kk + 1))
     case measure => omega
     case rel => exact ⟨kk + 1, by omega, by omega, by first | rfl | (simp; done), HB7, HO7⟩
    ·obtain rfl : kk = rs.length := by omega
     go_wp2
     go_ret
     exact ⟨_, rfl, HO6.out, HB6.out⟩
def impl_table.ch (l : List (S51)) (j : Nat) : List (S51) := (l.drop (4 * j)).take 4
def impl_table.ky (l : List (S51)) (j : Nat) : ByteArray := (rd_T51 (impl_table.ch l j) (((impl_table.ch l j).length : Int) - 1)).f0
def impl_table.bb (k : Nat) (l : List (S51)) (j : Nat) : List Int := (impl_blockBytes.f k (impl_table.ch l j)).getD []
def impl_table.ss (k : Nat) (l : List (S51)) (j : Nat) : List Int := (impl_sized.f k (impl_table.ky l j)).getD []
def impl_table.pv (k : Nat) (n : Nat) : List Int := (impl_PutVar.f k (n : Int)).getD []
def impl_table.M : Nat := 1000000000
def impl_table.step (k : Nat) (l : List (S51)) (st : List Int × List Int) (j : Nat) : List Int × List Int := (st.1 ++ impl_table.bb k l j, ((st.2 ++ impl_table.ss k l j) ++ impl_table.pv k st.1.length) ++ impl_table.pv k (impl_table.bb k l j).length)
def impl_table.run (k : Nat) (l : List (S51)) (js : List Nat) : List Int × List Int := js.foldl (impl_table.step k l) ([], [])
def impl_table.N (l : List (S51)) : Nat := (l.length + 3) / 4
def impl_table.goodB (k : Nat) (l : List (S51)) (j : Nat) : Bool := (impl_blockBytes.f k (impl_table.ch l j)).any (fun b => decide (b.length ≤ 1000000)) && (impl_sized.f k (impl_table.ky l j)).any (fun b => decide (b.length ≤ 1000000))
def impl_table.goodP (k : Nat) (n : Nat) : Bool := (impl_PutVar.f k (n : Int)).any (fun p => decide (p.length ≤ 100))
def impl_table.good (k : Nat) (l : List (S51)) : Bool := decide (0 < l.length ∧ l.length ≤ 400) && ((List.range (impl_table.N l)).all (impl_table.goodB k l) && (List.range impl_table.M).all (impl_table.goodP k))
def impl_table.tail (k : Nat) (l : List (S51)) (a1 : Int) (o i : List Int) : Option (List Int) :=
 (impl_keysOf.f k l).bind fun ks => (impl_FilterOf.f k ks a1).bind fun p => (impl_FilterBytes.f p.1 p.2.1).bind fun q => (impl_fixed.f k o.length).bind fun e1 => (impl_fixed.f k (wrap64 (o.length + q.1.length))).bind fun e2 => (impl_fixed.f k l.length).bind fun e3 =>
  if e1.length ≤ 100 ∧ e2.length ≤ 100 ∧ e3.length ≤ 100 ∧ o.length + q.1.length + i.length ≤ 900000 then
   (impl_Crc32c.f k (((o ++ q.1) ++ i) ++ ((e1 ++ e2) ++ e3))).bind fun c => (impl_fixed.f k (wrap64 c)).bind fun e4 => if e4.length ≤ 100 then some (((((o ++ q.1) ++ i) ++ ((e1 ++ e2) ++ e3)) ++ e4) ++ [84, 66, 76, 49]) else none
  else none
def impl_table.f (k : Nat) (l0 : List (S51)) (a1 : Int) : Option (List Int) := if impl_table.good k l0 = true then impl_table.tail k l0 a1 (impl_table.run k l0 (List.range (impl_table.N l0))).1 (impl_table.run k l0 (List.range (impl_table.N l0))).2 else none
theorem impl_table.any_open {x : Option (List Int)} {m : Nat} (h : x.any (fun b => decide (b.length ≤ m)) = true) : ∃ b, x = some b ∧ b.length ≤ m := by
 cases x with
 | none => cases h
 | some b => exact ⟨b, rfl, by simpa using h⟩
theorem impl_table.good_open {k : Nat} {l : List (S51)} (h : impl_table.good k l = true) : (0 < l.length ∧ l.length ≤ 400) ∧ (∀ j, j < impl_table.N l → impl_table.goodB k l j = true) ∧ (∀ n, n < impl_table.M → impl_table.goodP k n = true) := by
 unfold impl_table.good at h
 simp only [Bool.and_eq_true, decide_eq_true_eq, List.all_eq_true, List.mem_range] at h
 exact ⟨h.1, h.2.1, h.2.2⟩
theorem impl_table.good_shut {k : Nat} {l : List (S51)} (h1 : 0 < l.length ∧ l.length ≤ 400) (h2 : ∀ j, j < impl_table.N l → impl_table.goodB k l j = true) (h3 : ∀ n, n < impl_table.M → impl_table.goodP k n = true) : impl_table.good k l = true := by
 unfold impl_table.good
 simp only [Bool.and_eq_true, decide_eq_true_eq, List.all_eq_true, List.mem_range]
 exact ⟨h1, h2, h3⟩
theorem impl_table.N_le {l : List (S51)} (h : l.length ≤ 400) : impl_table.N l ≤ 100 := by unfold impl_table.N; omega
theorem impl_table.bb_le {k : Nat} {l : List (S51)} {j : Nat} (h : impl_table.goodB k l j = true) : (impl_table.bb k l j).length ≤ 1000000 ∧ (impl_table.ss k l j).length ≤ 1000000 ∧ impl_blockBytes.f k (impl_table.ch l j) = some (impl_table.bb k l j) ∧ impl_sized.f k (impl_table.ky l j) = some (impl_table.ss k l j) := by
 unfold impl_table.goodB at h
 rw [Bool.and_eq_true] at h
 obtain ⟨b, h1, h2⟩ := impl_table.any_open h.1
 obtain ⟨c, h3, h4⟩ := impl_table.any_open h.2
 unfold impl_table.bb impl_table.ss
 rw [h1, h3]
 exact ⟨h2, h4, rfl, rfl⟩
theorem impl_table.pv_le {k n : Nat} (h : impl_table.goodP k n = true) : (impl_table.pv k n).length ≤ 100 ∧ impl_PutVar.f k (n : Int) = some (impl_table.pv k n) := by
 obtain ⟨b, h1, h2⟩ := impl_table.any_open h
 unfold impl_table.pv
 rw [h1]
 exact ⟨h2, rfl⟩
theorem impl_table.run_snoc (k : Nat) (l : List (S51)) (js : List Nat) (j : Nat) : impl_table.run k l (js ++ [j]) = impl_table.step k l (impl_table.run k l js) j := by simp [impl_table.run, List.foldl_append]
theorem impl_table.snoc {P : List Nat → Prop} (h0 : P []) (h1 : ∀ js j, P js → P (js ++ [j])) : ∀ js, P js := fun js => by
 have h : ∀ l : List Nat, P l.reverse := by
  intro l
  induction l with
  | nil => exact h0
  | cons a l ih => rw [List.reverse_cons]; exact h1 _ _ ih
 have h2 := h js.reverse
 rwa [List.reverse_reverse] at h2
/-- how long the two rows may have become -/
theorem impl_table.run_le {k : Nat} {l : List (S51)} (h2 : ∀ j, j < impl_table.N l → impl_table.goodB k l j = true) (h3 : ∀ n, n < impl_table.M → impl_table.goodP k n = true) : ∀ js : List Nat, (∀ j ∈ js, j < impl_table.N l) → js.length ≤ 100 → (impl_table.run k l js).1.length ≤ js.length * 1000000 ∧ (impl_table.run k l js).2.length ≤ js.length * 1000200 := by
 refine impl_table.snoc ?_ ?_
 ·intro _ _; exact ⟨by simp [impl_table.run], by simp [impl_table.run]⟩
 ·intro js j ih hj hl
  rw [List.length_append, List.length_singleton] at hl; obtain ⟨a, b⟩ := ih (fun i hi => hj i (List.mem_append_left _ hi)) (by omega); obtain ⟨c, d, _, _⟩ := impl_table.bb_le (h2 j (hj j (by simp))); have hM : impl_table.M = 1000000000 := rfl; have e1 := (impl_table.pv_le (h3 (impl_table.run k l js).1.length (by omega))).1; have e2 := (impl_table.pv_le (h3 (impl_table.bb k l j).length (by omega))).1; rw [impl_table.run_snoc]; simp only [impl_table.step, List.length_append, List.length_singleton]
  omega
/-- the boxes: out, index, and the iterator's two -/
def impl_table.KK (Bo Bi Bs Bn : Nat) (sv vo vi : Value) : List (Nat × Obj) := [(Bo, .cells #[vo] 24 (0, 0)), (Bi, .cells #[vi] 24 (0, 0)), (Bs, .cells #[sv] 27 (0, 0)), (Bn, .cells #[.int .i64 4] 3 (0, 0))]
structure impl_table.Ds (Bo Bi Bs Bn : Nat) : Prop where
 oi : Bo ≠ Bi
 os : Bs ≠ Bo
 is : Bs ≠ Bi
 on : Bn ≠ Bo
 in_ : Bn ≠ Bi
section
variable {w0 V W : World} {L : List (Value × List Int)} {Bo Bi Bs Bn : Nat} {sv vo vi : Value}
theorem impl_table.ko (h : Sn 5 w0 V W L (impl_table.KK Bo Bi Bs Bn sv vo vi)) : W.heap[Bo]? = some (.cells #[vo] 24 (0, 0)) := (h.kept (Bo, _) (by simp [impl_table.KK])).1
theorem impl_table.ki (h : Sn 5 w0 V W L (impl_table.KK Bo Bi Bs Bn sv vo vi)) : W.heap[Bi]? = some (.cells #[vi] 24 (0, 0)) := (h.kept (Bi, _) (by simp [impl_table.KK])).1
theorem impl_table.ks (h : Sn 5 w0 V W L (impl_table.KK Bo Bi Bs Bn sv vo vi)) : W.heap[Bs]? = some (.cells #[sv] 27 (0, 0)) := (h.kept (Bs, _) (by simp [impl_table.KK])).1
theorem impl_table.kn (h : Sn 5 w0 V W L (impl_table.KK Bo Bi Bs Bn sv vo vi)) : W.heap[Bn]? = some (.cells #[.int .i64 4] 3 (0, 0)) := (h.kept (Bn, _) (by simp [impl_table.KK])).1
theorem impl_table.co (h : Sn 5 w0 V W L (impl_table.KK Bo Bi Bs Bn sv vo vi)) : W.cell? ⟨Bo, 0, none⟩ = some vo := (blk_cell (impl_table.ko h) 0).trans rfl
theorem impl_table.ci (h : Sn 5 w0 V W L (impl_table.KK Bo Bi Bs Bn sv vo vi)) : W.cell? ⟨Bi, 0, none⟩ = some vi := (blk_cell (impl_table.ki h) 0).trans rfl
theorem impl_table.so (h : Sn 5 w0 V W L (impl_table.KK Bo Bi Bs Bn sv vo vi)) (d : impl_table.Ds Bo Bi Bs Bn) (u : Value) : Sn 5 w0 V (W.setCell ⟨Bo, 0, none⟩ u) L (impl_table.KK Bo Bi Bs Bn sv u vi) := by
 refine Sn.set (K := [(Bi, .cells #[vi] 24 (0, 0)), (Bs, .cells #[sv] 27 (0, 0)), (Bn, .cells #[.int .i64 4] 3 (0, 0))]) h ?_ ((On.refl _ _).set 0 u) (blk_set (impl_table.ko h) 0 u)
 intro q hq
 simp only [List.mem_cons, List.not_mem_nil, or_false] at hq
 rcases hq with rfl | rfl | rfl
 ·exact fun e => d.oi e.symm
 ·exact d.os
 ·exact d.on
theorem impl_table.si (h : Sn 5 w0 V W L (impl_table.KK Bo Bi Bs Bn sv vo vi)) (d : impl_table.Ds Bo Bi Bs Bn) (u : Value) : Sn 5 w0 V (W.setCell ⟨Bi, 0, none⟩ u) L (impl_table.KK Bo Bi Bs Bn sv vo u) := by
 refine Sn.keep (K := [(Bi, .cells #[u] 24 (0, 0)), (Bo, .cells #[vo] 24 (0, 0)), (Bs, .cells #[sv] 27 (0, 0)), (Bn, .cells #[.int .i64 4] 3 (0, 0))]) (Sn.set (cs := #[vi]) (K := [(Bo, .cells #[vo] 24 (0, 0)), (Bs, .cells #[sv] 27 (0, 0)), (Bn, .cells #[.int .i64 4] 3 (0, 0))]) (h.keep ?_) ?_ ((On.refl _ _).set 0 u) (blk_set (impl_table.ki h) 0 u)) ?_
 ·intro q hq; simp only [impl_table.KK, List.mem_cons, List.not_mem_nil, or_false] at hq ⊢; rcases hq with rfl | rfl | rfl | rfl <;> simp
 ·intro q hq
  simp only [List.mem_cons, List.not_mem_nil, or_false] at hq
  rcases hq with rfl | rfl | rfl
  ·exact d.oi
  ·exact d.is
  ·exact d.in_
 ·intro q hq; simp only [impl_table.KK, List.mem_cons, List.not_mem_nil, or_false] at hq ⊢; rcases hq with rfl | rfl | rfl | rfl <;> simp
end
/-- a chunk is read -/
theorem impl_table.rd {w : World} {l : List (S51)} {ad : Addr} (hr : Kd.C k51 w (some ad) l.length l) {j : Nat} (hj : j < impl_table.N l) : impl_tableck.v ad l.length j = .slice (some (ad.add (4 * j * 9))) (impl_table.ch l j).length (impl_table.ch l j).length ∧ Kd.C k51 w (some (ad.add (4 * j * 9))) (impl_table.ch l j).length (impl_table.ch l j) ∧ 0 < (impl_table.ch l j).length := by
 unfold impl_table.N at hj
 have h1 : (impl_table.ch l j).length = min 4 (l.length - 4 * j) := by unfold impl_table.ch; rw [List.length_take, List.length_drop]
 refine ⟨?_, ?_, by omega⟩
 ·unfold impl_tableck.v
  rw [h1, show 4 * 9 * j = 4 * j * 9 by omega]
 ·have h2 := Kd.C_drop hr (m := 4 * j) (c := l.length) (by omega) (Nat.le_refl _)
  rw [if_neg (by omega)] at h2
  exact Kd.C_take h2 (m := min 4 (l.length - 4 * j)) (by rw [List.length_drop]; omega) |> fun h3 => by
   have e : (l.drop (4 * j)).take (min 4 (l.length - 4 * j)) = impl_table.ch l j := by
    unfold impl_table.ch
    rw [← List.length_drop, ← List.take_eq_take_min]
   rw [e] at h3; exact h3
/-- what is so in the rounds -/
def impl_table.Inv (w0 : World) (k : Nat) (l : List (S51)) (Bo Bi Bs Bn : Nat) (sv : Value) (pre : List { j : Nat // j < (l.length + 3) / 4 }) (W : World) : Prop := ∃ vo vi, Sn 5 w0 W W [(vo, (impl_table.run k l (pre.map (·.1))).1), (vi, (impl_table.run k l (pre.map (·.1))).2)] (impl_table.KK Bo Bi Bs Bn sv vo vi)
theorem impl_table.inv_own (w0 : World) (k : Nat) (l : List (S51)) (Bo Bi Bs Bn : Nat) (sv : Value) (B : Nat) (hB : w0.heap.size ≤ B) : OwnFrom B (impl_table.Inv w0 k l Bo Bi Bs Bn sv) := by
 rintro s X Y row ⟨vo, vi, h⟩ hg hrow
 refine ⟨vo, vi, h.turned ?_ hg (fun r e => ⟨Nat.le_trans hB (hrow r e).1, (hrow r e).2⟩)⟩
 intro q hq
 simp only [impl_table.KK, List.mem_cons, List.not_mem_nil, or_false] at hq
 rcases hq with rfl | rfl | rfl | rfl <;> rfl
/-- four rows in a literal's block -/
theorem impl_table.four {w0 V : World} (_h : Below w0.heap.size w0 V) (A B C D : Option Addr) (ca cb cc cd : Nat) (la lb lc ld : List Int) : ∀ j (h : j < [(A, ca, la), (B, cb, lb), (C, cc, lc), (D, cd, ld)].length), (V.alloc (.cells #[.slice A la.length ca, .slice B lb.length cb, .slice C lc.length cc, .slice D ld.length cd] 24)).cell? ((⟨V.heap.size, 0, none⟩ : Addr).add j) = some (.slice ([(A, ca, la), (B, cb, lb), (C, cc, lc), (D, cd, ld)][j]'h).1 ([(A, ca, la), (B, cb, lb), (C, cc, lc), (D, cd, ld)][j]'h).2.2.length ([(A, ca, la), (B, cb, lb), (C, cc, lc), (D, cd, ld)][j]'h).2.1) := by
 intro j h
 have e : (⟨V.heap.size, 0, none⟩ : Addr).add j = ⟨V.heap.size, j, none⟩ := by unfold Addr.add; by_cases h0 : j = 0 <;> simp [h0]
 rw [e, blk_cell (blk_new V _) j]
 rcases j with _ | _ | _ | _ | j
 ·rfl
 ·rfl
 ·rfl
 ·rfl
 ·exact absurd h (by simp)
section
attribute [local go_sem] Oper.semAt_some
set_option maxHeartbeats 8000000 in
set_option maxRecDepth 100000 in
theorem impl_table.calls (k : Nat) (A0 : Option Addr) (c0 : Nat) (l0 : List (S51)) (a1 : Int) (r : List Int) (w : World) (hr0 : Kd.C k51 w A0 l0.length l0) (hc0 : l0.length ≤ c0) (h : impl_table.f k l0 a1 = some r) :
  Calls Try.prog 27 #[.slice A0 l0.length c0, .int .i64 a1] w fun e w' => ∃ v0_ : Value, e = .returned (v0_) ∧ Kd.R (Kd.int .u8) 5 w' w.heap.size (fun _ => True) v0_ r ∧ Below w.heap.size w w' := by
 unfold impl_table.f at h
 by_cases hg : impl_table.good k l0 = true
 case neg => rw [if_neg hg] at h; cases h
 rw [if_pos hg] at h
 obtain ⟨⟨g0, g1⟩, g2, g3⟩ := impl_table.good_open hg
 obtain ⟨ad, rfl, hz_⟩ := hr0.2.2 g0
 clear hz_
 have HR0 := Aside0.mk hr0
 have HC0 := Aside0.mk hc0
 have H := Aside0.mk h
 have G2 := Aside0.mk g2
 have G3 := Aside0.mk g3
 have G0 := Aside0.mk g0
 have G1 := Aside0.mk g1
 clear hr0 hc0 h hg g2 g3 g0 g1
 refine (callsIn_wide (n := 9)).1 (callsIn_of_wp_marks Try.func27 rfl trivial ?_ rfl)
 simp only [Try.ntmps27, List.size_toArray, List.length_cons, List.length_nil, Nat.reduceAdd, Nat.reduceSub, Array.replicate_succ, Array.replicate_zero, List.push_toArray, List.append_toArray, List.nil_append, List.cons_append]
 have S0 := mK (Sn.init (e := 5) (Below.refl w.heap.size w))
 refine wpIn_seq_k fun K hK => ?_
 refine regionWide_ (by kernel_rfl) ?_
 go_wp2
 refine OnlyN.normal ?_; refine hK _ _ ?_; clear hK K
 refine wpIn_seq_k fun K hK => ?_
 refine regionWide_ (by kernel_rfl) ?_
 go_wp2_with (first | ((with_reducible refine gate_dst (N := 14) rfl ?_); refine Kd.R_lit (Kd.int .u8) _ 5 ?hg (N := 14) ?hd (xs := ([] : List Int)) (inner := []) (ok := fun _ => True) (okp := fun _ => True) ?hr ?hp (fun _ hk => hk) trivial (Below.refl _ _) (Nat.le_refl _) (by simp) ?_; (case hd => rfl); (case hg => rfl); (case hr => first | (go_simp; done) | (go_simp; rfl)); (case hp => exact (Reps.none _ _)); intro v14 w2 ho hb hg_ hnew_; clear hg_ hnew_; obtain ⟨A14, c14, e14⟩ := Kd.R_slice ho; subst e14; have S1 := mK (S0.out.add ho hb); clear S0 ho hb) | ((with_reducible refine gate_dst (N := 15) rfl ?_); refine Kd.R_lit (Kd.int .u8) _ 5 ?hg (N := 15) ?hd (xs := ([] : List Int)) (inner := []) (ok := fun _ => True) (okp := fun _ => True) ?hr ?hp (fun _ hk => hk) trivial (Below.refl _ _) (Nat.le_refl _) (by simp) ?_; (case hd => rfl); (case hg => rfl); (case hr => first | (go_simp; done) | (go_simp; rfl)); (case hp => exact (Reps.none _ _)); intro v15 w3 ho hb hg_ hnew_; clear hg_ hnew_; obtain ⟨A15, c15, e15⟩ := Kd.R_slice ho; subst e15; have S2 := mK (S1.out.add ho hb).swap; clear S1 ho hb) | ((with_reducible refine gate_dst (N := 5) rfl ?_); refine box_event ?hg (N := 5) ?hd (cs := #[.slice none 0 0]) (t := 24) ?hr ?_; (case hd => rfl); (case hg => rfl); (case hr => first | (go_simp; done) | (go_simp; rfl)); intro Bo hg w4 hbox hb; have S3 := mK (S2.out.box hb hbox (by rw [hg]; exact S2.out.bel.size) (by decide)); clear S2 hg hbox hb) | ((with_reducible refine gate_dst (N := 6) rfl ?_); refine box_event ?hg (N := 6) ?hd (cs := #[.slice none 0 0]) (t := 24) ?hr ?_; (case hd => rfl); (case hg => rfl); (case hr => first | (go_simp; done) | (go_simp; rfl)); intro Bi hg w5 hbox hb; have NE := mK (show Bo ≠ Bi from by rw [hg]; exact Nat.ne_of_lt (blk_lt (S3.out.kept _ (List.mem_cons_self ..)).1)); have S4 := mK ((S3.out.box hb hbox (by rw [hg]; exact S3.out.bel.size) (by decide)).keep (K' := [(Bo, .cells #[.slice none 0 0] 24 (0, 0)), (Bi, .cells #[.slice none 0 0] 24 (0, 0))]) (by simp)); clear S3 hg hbox hb; have hx : w5.cell? ⟨Bo, 0, none⟩ = some (.slice none 0 0) := (blk_cell (S4.out.kept (Bo, .cells #[.slice none 0 0] 24 (0, 0)) (by simp)).1 0).trans rfl; have hf := blk_frozen (S4.out.kept (Bo, .cells #[.slice none 0 0] 24 (0, 0)) (by simp)).1 0) | ((with_reducible refine gate_store (t := 24) (p := 5) rfl ?_); refine store_event (t := 24) (p := 5) (v := ?vo_9001) (w1 := w5.setCell ⟨Bo, 0, none⟩ (.slice A14 0 c14)) ?hg ?ho ?hn ?hr ?_; (case ho => rfl); (case hg => rfl); (case hn => rfl); (case hr => first | (go_simp; done) | (go_simp; rfl)); intro w6 hw; have S5 := mK (show Sn 5 w w w6 [(.slice A14 0 c14, []), (.slice A15 0 c15, [])] [(Bi, .cells #[.slice none 0 0] 24 (0, 0)), (Bo, .cells #[.slice A14 0 c14] 24 (0, 0))] from (by rw [hw]; exact (Sn.set (cs := #[.slice none 0 0]) (ds := #[.slice A14 0 c14]) S4.out (by intro q hq; simp only [List.mem_cons, List.not_mem_nil, or_false] at hq; subst hq; exact fun e => NE.out e.symm) ((On.refl _ _).set 0 _) (blk_set (S4.out.kept (Bo, .cells #[.slice none 0 0] 24 (0, 0)) (by simp)).1 0 _)).keep (by simp))); clear hw hx hf S4; have hx : w6.cell? ⟨Bi, 0, none⟩ = some (.slice none 0 0) := (blk_cell (S5.out.kept (Bi, .cells #[.slice none 0 0] 24 (0, 0)) (by simp)).1 0).trans rfl; have hf := blk_frozen (S5.out.kept (Bi, .cells #[.slice none 0 0] 24 (0, 0)) (by simp)).1 0) | ((with_reducible refine gate_store (t := 24) (p := 6) rfl ?_); refine store_event (t := 24) (p := 6) (v := ?vo_9002) (w1 := w6.setCell ⟨Bi, 0, none⟩ (.slice A15 0 c15)) ?hg ?ho ?hn ?hr ?_; (case ho => rfl); (case hg => rfl); (case hn => rfl); (case hr => first | (go_simp; done) | (go_simp; rfl)); intro w7 hw; have S6 := mK (show Sn 5 w w w7 [(.slice A14 0 c14, []), (.slice A15 0 c15, [])] [(Bo, .cells #[.slice A14 0 c14] 24 (0, 0)), (Bi, .cells #[.slice A15 0 c15] 24 (0, 0))] from (by rw [hw]; exact (Sn.set (cs := #[.slice none 0 0]) (ds := #[.slice A15 0 c15]) S5.out (by intro q hq; simp only [List.mem_cons, List.not_mem_nil, or_false] at hq; subst hq; exact NE.out) ((On.refl _ _).set 0 _) (blk_set (S5.out.kept (Bi, .cells #[.slice none 0 0] 24 (0, 0)) (by simp)).1 0 _)).keep (by simp))); clear hw hx hf S5))
 refine OnlyN.normal ?_; refine hK _ _ ?_; clear hK K
 refine wpIn_seq_k fun K2 hK2 => ?_
 refine wpIn_seq_k fun K hK => ?_
 refine regionWide_ (by kernel_rfl) ?_
 go_wp2_with (go_at_call 47; (with_reducible refine (impl_tableck.made2 (some ad) l0.length c0 _).mono ?_); rintro e w8 ⟨Bs, Bn, rfl, hbs, hbn, hs1, hn1, hb⟩; have hlt0 := blk_lt (S6.out.kept (Bo, .cells #[.slice A14 0 c14] 24 (0, 0)) (by simp)).1; have hlt1 := blk_lt (S6.out.kept (Bi, .cells #[.slice A15 0 c15] 24 (0, 0)) (by simp)).1; have DS := mK (⟨NE.out, by omega, by omega, by omega, by omega⟩ : impl_table.Ds Bo Bi Bs Bn); have hS7 := (S6.out.drewN 0).step hb)
 have S8 := mK (show Sn 5 w w w8 [(.slice A14 0 c14, []), (.slice A15 0 c15, [])] (impl_table.KK Bo Bi Bs Bn (.slice (some ad) l0.length c0) (.slice A14 0 c14) (.slice A15 0 c15)) from ⟨hS7.row, hS7.apt, (by
  intro q hq; simp only [impl_table.KK, List.mem_cons, List.not_mem_nil, or_false] at hq
  rcases hq with rfl | rfl | rfl | rfl
  ·exact hS7.kept _ (by simp)
  ·exact hS7.kept _ (by simp)
  ·exact ⟨hbs, Nat.le_trans S6.out.bel.size hs1, fun cur z he => by injection he with h1 h2; exact absurd h2 (by decide)⟩
  ·exact ⟨hbn, Nat.le_trans S6.out.bel.size hn1, fun cur z he => by injection he with h1 h2; exact absurd h2 (by decide)⟩), hS7.bel, hS7.oth⟩)
 have hs8 := blk_lt hbs
 have hn8 := blk_lt hbn
 have HS8 := Aside0.mk hs8
 have HN8 := Aside0.mk hn8
 have hcs : w8.cell? ⟨Bs, 0, none⟩ = some (.slice (some ad) l0.length c0) := (blk_cell hbs 0).trans rfl
 have hcn : w8.cell? ⟨Bn, 0, none⟩ = some (.int .i64 4) := (blk_cell hbn 0).trans rfl
 clear hS7 hbs hbn hs1 hn1 hb hlt0 hlt1 NE S6 hs8 hn8
 refine OnlyN.normal ?_; refine hK _ _ ?_; clear hK K
 refine wpIn_block ?_
 refine wpIn_rangeFunc_ownG rfl (by omega) (gf := 77) (lb := #[.pointer (some ⟨Bs, 0, none⟩), .pointer (some ⟨Bn, 0, none⟩)]) rfl trivial (enters_of Try.func77 (by kernel_rfl) rfl)
  (impl_tableck.stops 8 (by omega) Bs Bn l0.length c0 ad HC0.out (by have := G1.out; omega) w8 hcs hcn) (fun h k => impl_tableck.Kp.trans h k) ?hKb (Below.refl _ _) (fun _ => rfl)
  (impl_table.Inv w k l0 Bo Bi Bs Bn (.slice (some ad) l0.length c0)) (fun _ _ _ => False) (impl_table.inv_own _ _ _ _ _ _ _ _ _ S8.out.bel.size) (fun _ _ _ _ _ hs _ _ => hs)
  ⟨.slice A14 0 c14, .slice A15 0 c15, S8.out.restart⟩
  (fun x => { tmps := #[.slice (some ad) l0.length c0, .int .i64 a1, undef, undef, .slice none 0 0, .pointer (some ⟨Bo, 0, none⟩), .pointer (some ⟨Bi, 0, none⟩), .slice (some (ad.add (4 * x.1 * 9))) (impl_table.ch l0 x.1).length (impl_table.ch l0 x.1).length, undef, undef, undef, undef, undef, undef, .slice A14 0 c14, .slice A15 0 c15, .slice (some ad) l0.length c0, .func (.func 77) #[] #[.pointer (some ⟨Bs, 0, none⟩), .pointer (some ⟨Bn, 0, none⟩)], .slice (some (ad.add (4 * x.1 * 9))) (impl_table.ch l0 x.1).length (impl_table.ch l0 x.1).length, undef, undef, undef, undef, undef, undef, undef, undef, undef, undef, undef, undef, undef, undef, undef, undef, undef, undef, undef, undef, undef, undef, undef, undef, undef, undef, undef, undef, undef, undef, undef, undef, undef, undef, undef, undef, undef, undef, undef, undef, undef, undef, undef, undef, undef, undef, undef, undef, undef, undef, undef, undef, undef, undef, undef, undef, undef, undef, undef, undef, undef, undef, undef, undef, undef, undef], defers := [] }) ?assign ?body ?done ?stop
 case hKb =>
  intro V l o o' hl _ _ _; exact ⟨World.putObj_heap_other (by have := HS8.out; omega), World.putObj_heap_other (by have := HN8.out; omega)⟩
 case assign =>
  intro l x V K hK; have hv := (impl_table.rd HR0.out x.2).1
  gi_wp2
  exact hK
 case stop =>
  rintro D c pre V _ _ h _; exact h.elim
 case done =>
  rintro D xs W hD hxs ⟨vo, vi, hS⟩ hDc; have h0 := H.out; rw [hxs] at hS; have eN : List.range ((l0.length + 3) / 4) = List.range (impl_table.N l0) := rfl; rw [eN] at hS; have hw8b := S8.out.bel.size; clear S8 H HS8 HN8 hcs hcn hxs eN; generalize (impl_table.run k l0 (List.range (impl_table.N l0))).1 = o at hS h0; generalize (impl_table.run k l0 (List.range (impl_table.N l0))).2 = ix at hS h0
  unfold impl_table.tail at h0
  obtain ⟨ks, hks, h0⟩ := Option.bind_eq_some_iff.mp h0; obtain ⟨⟨f1, f2, f3⟩, hfo, h0⟩ := Option.bind_eq_some_iff.mp h0; obtain ⟨⟨q1, q2⟩, hfb, h0⟩ := Option.bind_eq_some_iff.mp h0; obtain ⟨e1, he1, h0⟩ := Option.bind_eq_some_iff.mp h0; obtain ⟨e2, he2, h0⟩ := Option.bind_eq_some_iff.mp h0; obtain ⟨e3, he3, h0⟩ := Option.bind_eq_some_iff.mp h0
  simp only at hfb he2 h0
  by_cases hc : e1.length ≤ 100 ∧ e2.length ≤ 100 ∧ e3.length ≤ 100 ∧ o.length + q1.length + ix.length ≤ 900000
  case neg => rw [if_neg hc] at h0; cases h0
  rw [if_pos hc] at h0; obtain ⟨m1, m2, m3, m4⟩ := hc; obtain ⟨cr, hcr, h0⟩ := Option.bind_eq_some_iff.mp h0; obtain ⟨e4, he4, h0⟩ := Option.bind_eq_some_iff.mp h0
  by_cases hc2 : e4.length ≤ 100
  case neg => rw [if_neg hc2] at h0; cases h0
  rw [if_pos hc2] at h0; have hr := Option.some.inj h0; have HKS := Aside0.mk hks; have HFO := Aside0.mk hfo; have HFB := Aside0.mk hfb; have HE1 := Aside0.mk he1; have HE2 := Aside0.mk he2; have HE3 := Aside0.mk he3; have HE4 := Aside0.mk he4; have HCR := Aside0.mk hcr; have HR := Aside0.mk hr; have M1 := Aside0.mk m1; have M2 := Aside0.mk m2; have M3 := Aside0.mk m3; have M4 := Aside0.mk m4; have M5 := Aside0.mk hc2; have HD := Aside0.mk hD; have HDC := Aside0.mk hDc; have W8B := Aside0.mk hw8b; clear hks hfo hfb he1 he2 he3 he4 hcr hr m1 m2 m3 m4 hc2 h0 hDc; obtain ⟨Ao, co, eo⟩ := Kd.R_slice (hS.row (vo, o) (by simp))
  simp only at eo
  subst eo; obtain ⟨Ai, ci, ei⟩ := Kd.R_slice (hS.row (vi, ix) (by simp))
  simp only at ei
  subst ei; have T0 := Aside0.mk hS; clear hS; refine hK2 _ _ ?_; clear hK2 K2
  refine wpIn_seq_k fun K hK => ?_
  refine regionWide_ (by kernel_rfl) ?_
  go_wp2_with (first | (go_at_call 52; (with_reducible refine (impl_keysOf.calls k (some ad) c0 l0 ks _ (Kd.C_below HR0.out (Sn.bel (snK T0.out))) HC0.out HKS.out).mono ?_); rintro e w9 ⟨v47, rfl, ho, hb⟩; obtain ⟨A47, c47, e47⟩ := Kd.R_slice ho; subst e47; have T1 := mK (Sn.step (snK T0.out) hb); have RK := mK (Kd.R_reads' ho); clear ho hb) | (go_at_call 51; (with_reducible refine (impl_FilterOf.calls k A47 c47 ks a1 f1 f2 f3 _ ?sideC RK.out.2.1 HFO.out).mono ?_); (case sideC => repeat (first | exact RK.out.2.2 | (with_reducible refine Kd.C_drewN ?_ _) | (with_reducible refine Kd.C_drew ?_))); rintro e w10 ⟨v49, rfl, ho, hb⟩; obtain ⟨A49, c49, e49⟩ := Kd.R_slice ho; subst e49; have T2 := mK (Sn.add (snK T1.out) ho hb); clear ho hb) | ((with_reducible refine gate_dst (N := 9) rfl ?_); refine box_event ?hg (N := 9) ?hd (cs := #[.int .i64 0, .slice none 0 0]) (t := 64) ?hr ?_; (case hd => rfl); (case hg => rfl); (case hr => first | (go_simp; done) | (go_simp; rfl)); intro g9 hg w11 hbox hb; have T3 := mK (show Sn 5 w W w11 _ ((g9, .cells #[.int .i64 0, .slice none 0 0] 64 (0, 0)) :: impl_table.KK Bo Bi Bs Bn _ _ _) from Sn.box T2.out hb hbox (by rw [hg]; exact T2.out.bel.size) (by decide)); have N9 := mK (show ∀ q ∈ impl_table.KK Bo Bi Bs Bn (.slice (some ad) l0.length c0) (.slice Ao o.length co) (.slice Ai ix.length ci), q.1 ≠ g9 from fun q hq => by rw [hg]; exact Nat.ne_of_lt (blk_lt (T2.out.kept q hq).1)); clear hg hbox hb; have hz0 : w11.cell? ⟨g9, 0, none⟩ = some (.int .i64 0) := (blk_cell (T3.out.kept _ (List.mem_cons_self ..)).1 0).trans rfl; have hz1 : w11.cell? ⟨g9, 1, none⟩ = some (.slice none 0 0) := (blk_cell (T3.out.kept _ (List.mem_cons_self ..)).1 1).trans rfl; have hf0 := blk_frozen (T3.out.kept _ (List.mem_cons_self ..)).1 0; have hf1 := blk_frozen (T3.out.kept _ (List.mem_cons_self ..)).1 1) | ((with_reducible refine gate_store (t := 64) (p := 9) rfl ?_); refine store_event (t := 64) (p := 9) (v := ?vo_9003) (w1 := setAll w11 g9 0 [.int .i64 f1, (.slice A49 f2.length c49)]) ?hg ?ho ?hn ?hr ?_; (case ho => rfl); (case hg => rfl); (case hn => rfl); (case hr => first | (go_simp; done) | (go_simp; rfl)); intro w12 hw; have T4 := mK (show Sn 5 w W w12 _ ((g9, .cells #[.int .i64 f1, (.slice A49 f2.length c49)] 64 (0, 0)) :: impl_table.KK Bo Bi Bs Bn _ _ _) from (by rw [hw]; exact Sn.set T3.out N9.out (setAll_on _ _ _ _) (setAll_blk _ (T3.out.kept _ (List.mem_cons_self ..)).1 rfl))); clear hw hz0 hz1 hf0 hf1 T3 T2))
  refine OnlyN.normal ?_; refine hK _ _ ?_; clear hK K; have hz0 : w12.cell? ⟨g9, 0, none⟩ = some (.int .i64 f1) := (blk_cell (T4.out.kept _ (List.mem_cons_self ..)).1 0).trans rfl; have hz1 : w12.cell? ⟨g9, 1, none⟩ = some (.slice A49 f2.length c49) := (blk_cell (T4.out.kept _ (List.mem_cons_self ..)).1 1).trans rfl
  refine wpIn_seq_k fun K hK => ?_
  refine regionWide_ (by kernel_rfl) ?_
  go_wp2_with (go_at_call 53; (with_reducible refine (impl_FilterBytes.calls f1 A49 c49 f2 q1 q2 _ ?sideC (Kd.R_reads' (T4.out.row ((.slice A49 f2.length c49), f2) (by simp))).2.1 HFB.out).mono ?_); (case sideC => repeat (first | exact (Kd.R_reads' (T4.out.row ((.slice A49 f2.length c49), f2) (by simp))).2.2 | (with_reducible refine Kd.C_drewN ?_ _) | (with_reducible refine Kd.C_drew ?_))); rintro e w13 ⟨v54, rfl, ho, hb⟩; obtain ⟨A54, c54, e54⟩ := Kd.R_slice ho; subst e54; have T5 := mK (Sn.keep (K' := impl_table.KK Bo Bi Bs Bn (.slice (some ad) l0.length c0) (.slice Ao o.length co) (.slice Ai ix.length ci)) (Sn.add (snK T4.out) ho hb).swap.drop1 (fun q hq => List.mem_cons_of_mem _ hq)); clear ho hb hz0 hz1)
  refine OnlyN.normal ?_; refine hK _ _ ?_; clear hK K T4 N9
  refine wpIn_seq_k fun K3 hK3 => ?_
  refine startWide_ (n := 15) (S := fun w' => w'.cell? ⟨Bo, 0, none⟩ = some (.slice Ao o.length co)) (ds := []) bq17_0 (by kernel_rfl) (by kernel_rfl) rfl rfl (impl_table.co T5.out.drew) (fun hHeld => ?_); have T5d := Aside0.mk T5.out.drew; generalize w13.drew = w14 at T5d hHeld ⊢; clear T5; refine tk_ 0 57 hHeld ?_
  refine pu_ 1 58 ?_
  refine tk_ 3 60 hHeld ?_
  refine pu_ 4 61 ?_
  refine pu_ 5 62 ?_
  refine pu_ 6 63 ?_
  refine pu_ 7 64 ?_
  refine pu_ 10 67 ?_
  refine pu_ 11 68 ?_
  refine on_ 2 59 (fun K hK => ?_); refine call_ 54 #[.int .i64 (o.length : Int)] (by rfl) rfl ?hrun ?_; (case hrun => first | (go_simp; done) | (go_simp; rfl)); (with_reducible refine (impl_fixed.calls k (o.length : Int) e1 _ HE1.out).mono ?_); rintro e w59 ⟨v59, rfl, ho, hb⟩; refine ⟨_, rfl, ?_⟩; obtain ⟨A59, c59, e59⟩ := Kd.R_slice ho; subst e59; have T6 := mK (T5d.out.add ho hb); clear ho hb T5d; refine hK.out _ _ (impl_table.co T6.out) (fun hHeld => ?_); clear hK K; refine norm_ (a' := ?_) ?_ ?_; rotate_left
  ·show Act.put _ (some 59) _ = _
   simp only [Act.put, sq_a, sq_b, sq_c, i64_w, i32_w]; rfl
  refine on_ 8 65 (fun K hK => ?_); refine call_ 54 #[.int .i64 (wrap64 ((o.length : Int) + (q1.length : Int)))] (by rfl) rfl ?hrun ?_; (case hrun => first | (go_simp; done) | (go_simp; rfl)); (with_reducible refine (impl_fixed.calls k _ e2 _ HE2.out).mono ?_); rintro e w65 ⟨v65, rfl, ho, hb⟩; refine ⟨_, rfl, ?_⟩; obtain ⟨A65, c65, e65⟩ := Kd.R_slice ho; subst e65; have T7 := mK (T6.out.add ho hb).swap; clear ho hb T6; refine hK.out _ _ (impl_table.co T7.out) (fun hHeld => ?_); clear hK K; refine norm_ (a' := ?_) ?_ ?_; rotate_left
  ·show Act.put _ (some 65) _ = _
   simp only [Act.put, sq_a, sq_b, sq_c, i64_w, i32_w]; rfl
  refine on_ 9 66 (fun K hK => ?_); refine Kd.R_append_rows_step (Kd.int .u8) (w0 := w) w.heap.size (by rfl) (.tmp 59) (.tmp 65) 24 5 (.int .u8 0) 1 rfl Try.underlying24 info5 rfl (by decide) (by omega) (.slice A59 e1.length c59) e1 e2 _ _ _ (fun _ => True) (fun _ => False) rfl rfl ?aO ?aR (fun _ _ h => h) (fun _ h => h.elim) (fun _ _ => trivial) ?aB ?aS ?aL ?_; (case aR => exact (Kd.R_reads' (T7.out.row ((.slice A65 e2.length c65), e2) (by simp))).2.2); (case aB => exact T7.out.bel); (case aS => exact T7.out.bel.size); (case aO => exact T7.out.row ((.slice A59 e1.length c59), e1) (by simp)); (case aL => have h1_ := M1.out; have h2_ := M2.out; have h3_ := M3.out; have h4_ := M4.out; have h5_ := M5.out; (try have h6_ := LY66.out); (try have h7_ := LY70.out); (try have h8_ := LY76.out); (try have h9_ := LY82.out); (try simp only [List.length_cons, List.length_nil]); omega); intro v66 w66 ho hb hg hat; obtain ⟨y66, hy66⟩ : ∃ y, y = e1 ++ e2 := ⟨_, rfl⟩; rw [← hy66] at ho; have Ny66 := Aside0.mk hy66; have LY66 := mK (show y66.length ≤ 200 by have h1_ := M1.out; have h2_ := M2.out; have h3_ := M3.out; have h4_ := M4.out; have h5_ := M5.out; (try have h6_ := LY66.out); (try have h7_ := LY70.out); (try have h8_ := LY76.out); (try have h9_ := LY82.out); rw [hy66, List.length_append]; (try simp only [List.length_cons, List.length_nil]); omega); clear hy66; obtain ⟨A66, c66, e66⟩ := Kd.R_slice ho; subst e66; have T8 := mK (T7.out.app ho hb hg hat).swap.drop1; clear ho hb hg hat T7; refine hK.out _ _ (impl_table.co T8.out) (fun hHeld => ?_); clear hK K; refine norm_ (a' := ?_) ?_ ?_; rotate_left
  ·show Act.put _ (some 66) _ = _
   simp only [Act.put, sq_a, sq_b, sq_c, i64_w, i32_w]; rfl
  refine on_ 12 69 (fun K hK => ?_); refine call_ 54 #[.int .i64 (l0.length : Int)] (by rfl) rfl ?hrun ?_; (case hrun => first | (go_simp; done) | (go_simp; rfl)); (with_reducible refine (impl_fixed.calls k _ e3 _ HE3.out).mono ?_); rintro e w69 ⟨v69, rfl, ho, hb⟩; refine ⟨_, rfl, ?_⟩; obtain ⟨A69, c69, e69⟩ := Kd.R_slice ho; subst e69; have T9 := mK (T8.out.add ho hb).swap; clear ho hb T8; refine hK.out _ _ (impl_table.co T9.out) (fun hHeld => ?_); clear hK K; refine norm_ (a' := ?_) ?_ ?_; rotate_left
  ·show Act.put _ (some 69) _ = _
   simp only [Act.put, sq_a, sq_b, sq_c, i64_w, i32_w]; rfl
  refine on_ 13 70 (fun K hK => ?_); refine Kd.R_append_rows_step (Kd.int .u8) (w0 := w) w.heap.size (by rfl) (.tmp 66) (.tmp 69) 24 5 (.int .u8 0) 1 rfl Try.underlying24 info5 rfl (by decide) (by omega) (.slice A66 y66.length c66) y66 e3 _ _ _ (fun _ => True) (fun _ => False) rfl rfl ?aO ?aR (fun _ _ h => h) (fun _ h => h.elim) (fun _ _ => trivial) ?aB ?aS ?aL ?_; (case aR => exact (Kd.R_reads' (T9.out.row ((.slice A69 e3.length c69), e3) (by simp))).2.2); (case aB => exact T9.out.bel); (case aS => exact T9.out.bel.size); (case aO => exact T9.out.row ((.slice A66 y66.length c66), y66) (by simp)); (case aL => have h1_ := M1.out; have h2_ := M2.out; have h3_ := M3.out; have h4_ := M4.out; have h5_ := M5.out; (try have h6_ := LY66.out); (try have h7_ := LY70.out); (try have h8_ := LY76.out); (try have h9_ := LY82.out); (try simp only [List.length_cons, List.length_nil]); omega); intro v70 w70 ho hb hg hat; obtain ⟨y70, hy70⟩ : ∃ y, y = y66 ++ e3 := ⟨_, rfl⟩; rw [← hy70] at ho; have Ny70 := Aside0.mk hy70; have LY70 := mK (show y70.length ≤ 300 by have h1_ := M1.out; have h2_ := M2.out; have h3_ := M3.out; have h4_ := M4.out; have h5_ := M5.out; (try have h6_ := LY66.out); (try have h7_ := LY70.out); (try have h8_ := LY76.out); (try have h9_ := LY82.out); rw [hy70, List.length_append]; (try simp only [List.length_cons, List.length_nil]); omega); clear hy70; obtain ⟨A70, c70, e70⟩ := Kd.R_slice ho; subst e70; have T10 := mK (T9.out.app ho hb hg hat).swap.drop1; clear ho hb hg hat T9; refine hK.out _ _ (impl_table.co T10.out) (fun hHeld => ?_); clear hK K; refine norm_ (a' := ?_) ?_ ?_; rotate_left
  ·show Act.put _ (some 70) _ = _
   simp only [Act.put, sq_a, sq_b, sq_c, i64_w, i32_w]; rfl
  refine pu_ 14 13 ?_
  refine done_ (by kernel_rfl) ?_; refine OnlyN.normal ?_; refine hK3 _ _ ?_; clear hK3 K3 hHeld; have hx : w70.cell? ⟨Bo, 0, none⟩ = some (.slice Ao o.length co) := impl_table.co T10.out; have hy : w70.cell? ⟨Bi, 0, none⟩ = some (.slice Ai ix.length ci) := impl_table.ci T10.out
  refine wpIn_seq_k fun K hK => ?_
  refine regionWide_ (by kernel_rfl) ?_
  go_wp2_with (first | (go_at_call 55; refine (Calls.mono (impl_tablecc.calls ⟨_, 0, none⟩ 4 [(Ao, co, o), (A54, c54, q1), (Ai, ci, ix), (A70, c70, y70)] _ ?cellC ?rdC ?totC (by simp)) ?_); (case cellC => exact impl_table.four (Sn.bel T10.out) _ _ _ _ _ _ _ _ _ _ _ _); (case rdC => (intro j hj; have T11 := T10.out.alloc (.cells #[(.slice Ao o.length co), (.slice A54 q1.length c54), (.slice Ai ix.length ci), .slice A70 y70.length c70] 24); rcases j with _ | _ | _ | _ | j; (exact (Kd.R_reads' (T11.row ((.slice Ao o.length co), o) (by simp))).2.2); (exact (Kd.R_reads' (T11.row ((.slice A54 q1.length c54), q1) (by simp))).2.2); (exact (Kd.R_reads' (T11.row ((.slice Ai ix.length ci), ix) (by simp))).2.2); (exact (Kd.R_reads' (T11.row (.slice A70 y70.length c70, y70) (by simp))).2.2); (exact absurd hj (by simp)))); (case totC => (have h4_ := M4.out; have h7_ := LY70.out; simp [impl_tablecc.tot]; omega)); rintro e w76 ⟨v76, rfl, ho, hb⟩; obtain ⟨y76, hy76⟩ : ∃ y, y = ((o ++ q1) ++ ix) ++ y70 := ⟨_, rfl⟩; have hcat : impl_tablecc.cat [(Ao, co, o), (A54, c54, q1), (Ai, ci, ix), (A70, c70, y70)] 4 = y76 := (by rw [hy76]; simp [impl_tablecc.cat]); replace ho : Kd.R (Kd.int .u8) 5 w76 _ (fun _ => True) v76 y76 := (by rw [← hcat]; exact ho); have LY76 := mK (show y76.length ≤ 900300 by (have h4_ := M4.out; have h7_ := LY70.out; rw [hy76, List.length_append, List.length_append, List.length_append]; omega)); have NY76 := Aside0.mk hy76; obtain ⟨A76, c76, e76⟩ := Kd.R_slice ho; subst e76; have T11 := mK (((T10.out.alloc (.cells #[(.slice Ao o.length co), (.slice A54 q1.length c54), (.slice Ai ix.length ci), .slice A70 y70.length c70] 24)).add ho hb).sub (List.sublist_append_left [_] [_, _, _, _])); clear ho hb hcat hy76 hx hy; have hx : w76.cell? ⟨Bo, 0, none⟩ = some (.slice Ao o.length co) := impl_table.co T11.out; have hf := blk_frozen (impl_table.ko T11.out) 0) | ((with_reducible refine gate_store (t := 24) (p := 5) rfl ?_); refine store_event (t := 24) (p := 5) (v := ?vo_9004) (w1 := w76.setCell ⟨Bo, 0, none⟩ (.slice A76 y76.length c76)) ?hg ?ho ?hn ?hr ?_; (case ho => rfl); (case hg => rfl); (case hn => rfl); (case hr => first | (go_simp; done) | (go_simp; rfl)); intro w77 hw; have T12 := mK (show Sn 5 w W w77 [(.slice A76 y76.length c76, y76)] (impl_table.KK Bo Bi Bs Bn (.slice (some ad) l0.length c0) (.slice A76 y76.length c76) (.slice Ai ix.length ci)) from (by rw [hw]; exact impl_table.so T11.out DS.out _)); clear hw hx hf T11))
  refine OnlyN.normal ?_; refine hK _ _ ?_; clear hK K T10
  refine wpIn_seq_k fun K3 hK3 => ?_
  have hrd := (Kd.R_reads' (T12.out.row (.slice A76 y76.length c76, y76) (by simp)))
  have HCR2 : impl_Crc32c.f k y76 = some cr := by rw [NY76.out, Ny70.out, Ny66.out]; exact HCR.out
  have HCR3 := Aside0.mk HCR2; clear HCR2 hrd; refine startWide_ (n := 9) (S := fun w' => w'.cell? ⟨Bo, 0, none⟩ = some (.slice A76 y76.length c76)) (ds := []) #[false, false, false, false, false, false, false, false, false] (by kernel_rfl) (by kernel_rfl) rfl rfl (impl_table.co T12.out.drew) (fun hHeld => ?_); have U0 := Aside0.mk T12.out.drew; generalize w77.drew = w78 at U0 hHeld ⊢; clear T12; refine tk_ 0 77 hHeld ?_
  refine tk_ 1 78 hHeld ?_
  refine two_ (i := 2) (j := 6) (Ni := some 79) (Nj := some 83) #[true, true, true, false, false, false, false, false, false] #[true, true, false, false, false, false, true, false, false] rfl rfl rfl rfl (by kernel_rfl) (by decide) (by decide) (fun K hK => ?_) (fun K hK => ?_)
  ·refine call_ 56 #[(.slice A76 y76.length c76)] (by rfl) rfl ?hrun ?_
   (case hrun => first | (go_simp; done) | (go_simp; rfl)); (with_reducible refine (impl_Crc32c.calls k A76 c76 y76 cr _ (Kd.R_reads' (U0.out.row ((.slice A76 y76.length c76), y76) (by simp))).2.2 (Kd.R_reads' (U0.out.row ((.slice A76 y76.length c76), y76) (by simp))).2.1 HCR3.out).mono ?_); rintro e w79 ⟨rfl, hd79⟩; refine ⟨_, rfl, ?_⟩; have U1 := mK (U0.out.step hd79.below); clear hd79 U0; refine hK.out _ _ (impl_table.co U1.out) (fun hHeld => ?_); clear hK K; refine norm_ (a' := ?_) ?_ ?_; rotate_left
   ·show Act.put _ (some 79) _ = _
    simp only [Act.put, sq_a, sq_b, sq_c, i64_w, i32_w]; rfl
   refine pu_ 3 80 ?_
   refine two_ (i := 4) (j := 6) (Ni := some 81) (Nj := some 83) #[true, true, true, true, true, false, false, false, false] #[true, true, true, true, false, false, true, false, false] rfl rfl rfl rfl (by kernel_rfl) (by decide) (by decide) (fun K hK => ?_) (fun K hK => ?_)
   ·refine call_ 54 #[.int .i64 (wrap64 cr)] (by rfl) rfl ?hrun ?_
    (case hrun => first | (go_simp; done) | (go_simp; rfl)); (with_reducible refine (impl_fixed.calls k (wrap64 cr) e4 _ HE4.out).mono ?_); rintro e w81 ⟨v81, rfl, ho, hb⟩; refine ⟨_, rfl, ?_⟩; obtain ⟨A81, c81, e81⟩ := Kd.R_slice ho; subst e81; have U2 := mK (U1.out.add ho hb); clear ho hb U1; refine hK.out _ _ (impl_table.co U2.out) (fun hHeld => ?_); clear hK K; refine norm_ (a' := ?_) ?_ ?_; rotate_left
    ·show Act.put _ (some 81) _ = _
     simp only [Act.put, sq_a, sq_b, sq_c, i64_w, i32_w]; rfl
    refine two_ (i := 5) (j := 6) (Ni := some 82) (Nj := some 83) #[true, true, true, true, true, true, false, false, false] #[true, true, true, true, true, false, true, false, false] rfl rfl rfl rfl (by kernel_rfl) (by decide) (by decide) (fun K hK => ?_) (fun K hK => ?_)
    ·replace U2 := mK (U2.out.perm (List.perm_append_comm (l₁ := [_]) (l₂ := [_])))
     refine Kd.R_append_rows_step (Kd.int .u8) (w0 := w) w.heap.size (by rfl) (.tmp 77) (.tmp 81) 24 5 (.int .u8 0) 1 rfl Try.underlying24 info5 rfl (by decide) (by omega) (.slice A76 y76.length c76) y76 e4 _ _ _ (fun _ => True) (fun _ => False) rfl rfl ?aO ?aR (fun _ _ h => h) (fun _ h => h.elim) (fun _ _ => trivial) ?aB ?aS ?aL ?_; (case aR => exact (Kd.R_reads' (U2.out.row ((.slice A81 e4.length c81), e4) (by simp))).2.2); (case aB => exact U2.out.bel); (case aS => exact U2.out.bel.size); (case aO => exact U2.out.row ((.slice A76 y76.length c76), y76) (by simp)); (case aL => have h1_ := M1.out; have h2_ := M2.out; have h3_ := M3.out; have h4_ := M4.out; have h5_ := M5.out; (try have h6_ := LY66.out); (try have h7_ := LY70.out); (try have h8_ := LY76.out); (try have h9_ := LY82.out); (try simp only [List.length_cons, List.length_nil]); omega); intro v82 w82 ho hb hg hat; obtain ⟨y82, hy82⟩ : ∃ y, y = y76 ++ e4 := ⟨_, rfl⟩; rw [← hy82] at ho; have Ny82 := Aside0.mk hy82; have LY82 := mK (show y82.length ≤ 900400 by have h1_ := M1.out; have h2_ := M2.out; have h3_ := M3.out; have h4_ := M4.out; have h5_ := M5.out; (try have h6_ := LY66.out); (try have h7_ := LY70.out); (try have h8_ := LY76.out); (try have h9_ := LY82.out); rw [hy82, List.length_append]; (try simp only [List.length_cons, List.length_nil]); omega); clear hy82; obtain ⟨A82, c82, e82⟩ := Kd.R_slice ho; subst e82; have U3 := mK (U2.out.app ho hb hg hat); clear ho hb hg hat U2; refine hK.out _ _ (impl_table.co U3.out) (fun hHeld => ?_); clear hK K; refine norm_ (a' := ?_) ?_ ?_; rotate_left
     ·show Act.put _ (some 82) _ = _
      simp only [Act.put, sq_a, sq_b, sq_c, i64_w, i32_w]; rfl
     refine on_ 6 83 (fun K hK => ?_); refine Kd.R_lit_step (Kd.int .u8) _ 5 (by rfl) (N := 83) rfl (xs := ([84, 66, 76, 49] : List Int)) (inner := [.int .u8 84, .int .u8 66, .int .u8 76, .int .u8 49]) (ok := fun _ => True) (okp := fun _ => True) ?hr6 (Reps.one (show Kd.M (Kd.int .u8) _ _ _ 84 [.int .u8 84] from rfl) (Reps.one (show Kd.M (Kd.int .u8) _ _ _ 66 [.int .u8 66] from rfl) (Reps.one (show Kd.M (Kd.int .u8) _ _ _ 76 [.int .u8 76] from rfl) (Reps.one (show Kd.M (Kd.int .u8) _ _ _ 49 [.int .u8 49] from rfl) (Reps.none _ _))))) (fun _ hk => hk) trivial (Below.refl _ _) (Nat.le_refl _) (by simp) ?_; (case hr6 => first | (go_simp; done) | (go_simp; rfl)); intro v83 w83 ho hb hg_ hnew_; clear hg_ hnew_; obtain ⟨A83, c83, e83⟩ := Kd.R_slice ho; subst e83; have U4 := mK (U3.out.add ho hb); clear ho hb U3; refine hK.out _ _ (impl_table.co U4.out) (fun hHeld => ?_); clear hK K; refine norm_ (a' := ?_) ?_ ?_; rotate_left
     ·show Act.put _ (some 83) _ = _
      simp only [Act.put, sq_a, sq_b, sq_c, i64_w, i32_w]; rfl
     refine on_ 7 84 (fun K hK => ?_); replace U4 := mK (U4.out.perm (List.perm_append_comm (l₁ := [_]) (l₂ := [_, _]))); refine Kd.R_append_rows_step (Kd.int .u8) (w0 := w) w.heap.size (by rfl) (.tmp 82) (.tmp 83) 24 5 (.int .u8 0) 1 rfl Try.underlying24 info5 rfl (by decide) (by omega) (.slice A82 y82.length c82) y82 [84, 66, 76, 49] _ _ _ (fun _ => True) (fun _ => False) rfl rfl ?aO ?aR (fun _ _ h => h) (fun _ h => h.elim) (fun _ _ => trivial) ?aB ?aS ?aL ?_; (case aR => exact (Kd.R_reads' (U4.out.row ((.slice A83 4 c83), [84, 66, 76, 49]) (by simp))).2.2); (case aB => exact U4.out.bel); (case aS => exact U4.out.bel.size); (case aO => exact U4.out.row ((.slice A82 y82.length c82), y82) (by simp)); (case aL => have h1_ := M1.out; have h2_ := M2.out; have h3_ := M3.out; have h4_ := M4.out; have h5_ := M5.out; (try have h6_ := LY66.out); (try have h7_ := LY70.out); (try have h8_ := LY76.out); (try have h9_ := LY82.out); (try simp only [List.length_cons, List.length_nil]); omega); intro v84 w84 ho hb hg hat; obtain ⟨y84, hy84⟩ : ∃ y, y = y82 ++ [84, 66, 76, 49] := ⟨_, rfl⟩; rw [← hy84] at ho; have Ny84 := Aside0.mk hy84; have LY84 := mK (show y84.length ≤ 900404 by have h1_ := M1.out; have h2_ := M2.out; have h3_ := M3.out; have h4_ := M4.out; have h5_ := M5.out; (try have h6_ := LY66.out); (try have h7_ := LY70.out); (try have h8_ := LY76.out); (try have h9_ := LY82.out); rw [hy84, List.length_append]; (try simp only [List.length_cons, List.length_nil]); omega); clear hy84; obtain ⟨A84, c84, e84⟩ := Kd.R_slice ho; subst e84; have U5 := mK ((U4.out.app ho hb hg hat).sub (List.sublist_append_left [_] [_, _])); clear ho hb hg hat U4; refine hK.out _ _ (impl_table.co U5.out) (fun hHeld => ?_); clear hK K; refine norm_ (a' := ?_) ?_ ?_; rotate_left
     ·show Act.put _ (some 84) _ = _
      simp only [Act.put, sq_a, sq_b, sq_c, i64_w, i32_w]; rfl
     refine pu_ 8 4 ?_
     refine done_ (by kernel_rfl) ?_; refine OnlyN.normal ?_; refine hK3 _ _ ?_; clear hK3 K3 hHeld; have hD9 := U5.out.oth.same D _ HDC.out rfl; refine wpIn_ret ?_; refine ⟨by simp, .inl ⟨_, _, rfl, run_takeDeferred hD9, ?_⟩⟩
     have Z := fun o9 => Sn.turned U5.out (by intro q hq; simp only [impl_table.KK, List.mem_cons, List.not_mem_nil, or_false] at hq; rcases hq with rfl | rfl | rfl | rfl <;> rfl) (grownBy_putObj' w84 D o9) (fun r e => by cases e; exact ⟨Nat.le_trans W8B.out HD.out, _, hD9, rfl⟩)
     have hfin : y84 = r := by rw [Ny84.out, Ny82.out, NY76.out, Ny70.out, Ny66.out]; exact HR.out
     subst hfin; exact ⟨_, results_tmp rfl _ _ _, _, rfl, (Z _).row _ (List.mem_cons_self ..), (Z _).bel⟩
    ·refine Kd.R_lit_step (Kd.int .u8) _ 5 (by rfl) (N := 83) rfl (xs := ([84, 66, 76, 49] : List Int)) (inner := [.int .u8 84, .int .u8 66, .int .u8 76, .int .u8 49]) (ok := fun _ => True) (okp := fun _ => True) ?hr6 (Reps.one (show Kd.M (Kd.int .u8) _ _ _ 84 [.int .u8 84] from rfl) (Reps.one (show Kd.M (Kd.int .u8) _ _ _ 66 [.int .u8 66] from rfl) (Reps.one (show Kd.M (Kd.int .u8) _ _ _ 76 [.int .u8 76] from rfl) (Reps.one (show Kd.M (Kd.int .u8) _ _ _ 49 [.int .u8 49] from rfl) (Reps.none _ _))))) (fun _ hk => hk) trivial (Below.refl _ _) (Nat.le_refl _) (by simp) ?_
     (case hr6 => first | (go_simp; done) | (go_simp; rfl)); intro v83 w83 ho hb hg_ hnew_; clear hg_ hnew_; obtain ⟨A83, c83, e83⟩ := Kd.R_slice ho; subst e83; have U6 := mK (U2.out.add ho hb); clear ho hb U2; refine hK.out _ _ (impl_table.co U6.out) (fun hHeld => ?_); clear hK K; refine norm_ (a' := ?_) ?_ ?_; rotate_left
     ·show Act.put _ (some 83) _ = _
      simp only [Act.put, sq_a, sq_b, sq_c, i64_w, i32_w]; rfl
     refine on_ 5 82 (fun K hK => ?_); replace U6 := mK (U6.out.perm (List.perm_append_comm (l₁ := [_, _]) (l₂ := [_]))); refine Kd.R_append_rows_step (Kd.int .u8) (w0 := w) w.heap.size (by rfl) (.tmp 77) (.tmp 81) 24 5 (.int .u8 0) 1 rfl Try.underlying24 info5 rfl (by decide) (by omega) (.slice A76 y76.length c76) y76 e4 _ _ _ (fun _ => True) (fun _ => False) rfl rfl ?aO ?aR (fun _ _ h => h) (fun _ h => h.elim) (fun _ _ => trivial) ?aB ?aS ?aL ?_; (case aR => exact (Kd.R_reads' (U6.out.row ((.slice A81 e4.length c81), e4) (by simp))).2.2); (case aB => exact U6.out.bel); (case aS => exact U6.out.bel.size); (case aO => exact U6.out.row ((.slice A76 y76.length c76), y76) (by simp)); (case aL => have h1_ := M1.out; have h2_ := M2.out; have h3_ := M3.out; have h4_ := M4.out; have h5_ := M5.out; (try have h6_ := LY66.out); (try have h7_ := LY70.out); (try have h8_ := LY76.out); (try have h9_ := LY82.out); (try simp only [List.length_cons, List.length_nil]); omega); intro v82 w82 ho hb hg hat; obtain ⟨y82, hy82⟩ : ∃ y, y = y76 ++ e4 := ⟨_, rfl⟩; rw [← hy82] at ho; have Ny82 := Aside0.mk hy82; have LY82 := mK (show y82.length ≤ 900400 by have h1_ := M1.out; have h2_ := M2.out; have h3_ := M3.out; have h4_ := M4.out; have h5_ := M5.out; (try have h6_ := LY66.out); (try have h7_ := LY70.out); (try have h8_ := LY76.out); (try have h9_ := LY82.out); rw [hy82, List.length_append]; (try simp only [List.length_cons, List.length_nil]); omega); clear hy82; obtain ⟨A82, c82, e82⟩ := Kd.R_slice ho; subst e82; have U7 := mK (U6.out.app ho hb hg hat); clear ho hb hg hat U6; refine hK.out _ _ (impl_table.co U7.out) (fun hHeld => ?_); clear hK K; refine norm_ (a' := ?_) ?_ ?_; rotate_left
     ·show Act.put _ (some 82) _ = _
      simp only [Act.put, sq_a, sq_b, sq_c, i64_w, i32_w]; rfl
     refine on_ 7 84 (fun K hK => ?_); refine Kd.R_append_rows_step (Kd.int .u8) (w0 := w) w.heap.size (by rfl) (.tmp 82) (.tmp 83) 24 5 (.int .u8 0) 1 rfl Try.underlying24 info5 rfl (by decide) (by omega) (.slice A82 y82.length c82) y82 [84, 66, 76, 49] _ _ _ (fun _ => True) (fun _ => False) rfl rfl ?aO ?aR (fun _ _ h => h) (fun _ h => h.elim) (fun _ _ => trivial) ?aB ?aS ?aL ?_; (case aR => exact (Kd.R_reads' (U7.out.row ((.slice A83 4 c83), [84, 66, 76, 49]) (by simp))).2.2); (case aB => exact U7.out.bel); (case aS => exact U7.out.bel.size); (case aO => exact U7.out.row ((.slice A82 y82.length c82), y82) (by simp)); (case aL => have h1_ := M1.out; have h2_ := M2.out; have h3_ := M3.out; have h4_ := M4.out; have h5_ := M5.out; (try have h6_ := LY66.out); (try have h7_ := LY70.out); (try have h8_ := LY76.out); (try have h9_ := LY82.out); (try simp only [List.length_cons, List.length_nil]); omega); intro v84 w84 ho hb hg hat; obtain ⟨y84, hy84⟩ : ∃ y, y = y82 ++ [84, 66, 76, 49] := ⟨_, rfl⟩; rw [← hy84] at ho; have Ny84 := Aside0.mk hy84; have LY84 := mK (show y84.length ≤ 900404 by have h1_ := M1.out; have h2_ := M2.out; have h3_ := M3.out; have h4_ := M4.out; have h5_ := M5.out; (try have h6_ := LY66.out); (try have h7_ := LY70.out); (try have h8_ := LY76.out); (try have h9_ := LY82.out); rw [hy84, List.length_append]; (try simp only [List.length_cons, List.length_nil]); omega); clear hy84; obtain ⟨A84, c84, e84⟩ := Kd.R_slice ho; subst e84; have U8 := mK ((U7.out.app ho hb hg hat).sub (List.sublist_append_left [_] [_, _])); clear ho hb hg hat U7; refine hK.out _ _ (impl_table.co U8.out) (fun hHeld => ?_); clear hK K; refine norm_ (a' := ?_) ?_ ?_; rotate_left
     ·show Act.put _ (some 84) _ = _
      simp only [Act.put, sq_a, sq_b, sq_c, i64_w, i32_w]; rfl
     refine pu_ 8 4 ?_
     refine done_ (by kernel_rfl) ?_; refine OnlyN.normal ?_; refine hK3 _ _ ?_; clear hK3 K3 hHeld; have hD9 := U8.out.oth.same D _ HDC.out rfl; refine wpIn_ret ?_; refine ⟨by simp, .inl ⟨_, _, rfl, run_takeDeferred hD9, ?_⟩⟩
     have Z := fun o9 => Sn.turned U8.out (by intro q hq; simp only [impl_table.KK, List.mem_cons, List.not_mem_nil, or_false] at hq; rcases hq with rfl | rfl | rfl | rfl <;> rfl) (grownBy_putObj' w84 D o9) (fun r e => by cases e; exact ⟨Nat.le_trans W8B.out HD.out, _, hD9, rfl⟩)
     have hfin : y84 = r := by rw [Ny84.out, Ny82.out, NY76.out, Ny70.out, Ny66.out]; exact HR.out
     subst hfin; exact ⟨_, results_tmp rfl _ _ _, _, rfl, (Z _).row _ (List.mem_cons_self ..), (Z _).bel⟩
   ·refine Kd.R_lit_step (Kd.int .u8) _ 5 (by rfl) (N := 83) rfl (xs := ([84, 66, 76, 49] : List Int)) (inner := [.int .u8 84, .int .u8 66, .int .u8 76, .int .u8 49]) (ok := fun _ => True) (okp := fun _ => True) ?hr6 (Reps.one (show Kd.M (Kd.int .u8) _ _ _ 84 [.int .u8 84] from rfl) (Reps.one (show Kd.M (Kd.int .u8) _ _ _ 66 [.int .u8 66] from rfl) (Reps.one (show Kd.M (Kd.int .u8) _ _ _ 76 [.int .u8 76] from rfl) (Reps.one (show Kd.M (Kd.int .u8) _ _ _ 49 [.int .u8 49] from rfl) (Reps.none _ _))))) (fun _ hk => hk) trivial (Below.refl _ _) (Nat.le_refl _) (by simp) ?_
    (case hr6 => first | (go_simp; done) | (go_simp; rfl)); intro v83 w83 ho hb hg_ hnew_; clear hg_ hnew_; obtain ⟨A83, c83, e83⟩ := Kd.R_slice ho; subst e83; have U9 := mK (U1.out.add ho hb); clear ho hb U1; refine hK.out _ _ (impl_table.co U9.out) (fun hHeld => ?_); clear hK K; refine norm_ (a' := ?_) ?_ ?_; rotate_left
    ·show Act.put _ (some 83) _ = _
     simp only [Act.put, sq_a, sq_b, sq_c, i64_w, i32_w]; rfl
    refine on_ 4 81 (fun K hK => ?_); refine call_ 54 #[.int .i64 (wrap64 cr)] (by rfl) rfl ?hrun ?_; (case hrun => first | (go_simp; done) | (go_simp; rfl)); (with_reducible refine (impl_fixed.calls k (wrap64 cr) e4 _ HE4.out).mono ?_); rintro e w81 ⟨v81, rfl, ho, hb⟩; refine ⟨_, rfl, ?_⟩; obtain ⟨A81, c81, e81⟩ := Kd.R_slice ho; subst e81; have U10 := mK (U9.out.add ho hb); clear ho hb U9; refine hK.out _ _ (impl_table.co U10.out) (fun hHeld => ?_); clear hK K; refine norm_ (a' := ?_) ?_ ?_; rotate_left
    ·show Act.put _ (some 81) _ = _
     simp only [Act.put, sq_a, sq_b, sq_c, i64_w, i32_w]; rfl
    refine on_ 5 82 (fun K hK => ?_); replace U10 := mK (U10.out.perm (List.perm_append_comm (l₁ := [_, _]) (l₂ := [_]))); refine Kd.R_append_rows_step (Kd.int .u8) (w0 := w) w.heap.size (by rfl) (.tmp 77) (.tmp 81) 24 5 (.int .u8 0) 1 rfl Try.underlying24 info5 rfl (by decide) (by omega) (.slice A76 y76.length c76) y76 e4 _ _ _ (fun _ => True) (fun _ => False) rfl rfl ?aO ?aR (fun _ _ h => h) (fun _ h => h.elim) (fun _ _ => trivial) ?aB ?aS ?aL ?_; (case aR => exact (Kd.R_reads' (U10.out.row ((.slice A81 e4.length c81), e4) (by simp))).2.2); (case aB => exact U10.out.bel); (case aS => exact U10.out.bel.size); (case aO => exact U10.out.row ((.slice A76 y76.length c76), y76) (by simp)); (case aL => have h1_ := M1.out; have h2_ := M2.out; have h3_ := M3.out; have h4_ := M4.out; have h5_ := M5.out; (try have h6_ := LY66.out); (try have h7_ := LY70.out); (try have h8_ := LY76.out); (try have h9_ := LY82.out); (try simp only [List.length_cons, List.length_nil]); omega); intro v82 w82 ho hb hg hat; obtain ⟨y82, hy82⟩ : ∃ y, y = y76 ++ e4 := ⟨_, rfl⟩; rw [← hy82] at ho; have Ny82 := Aside0.mk hy82; have LY82 := mK (show y82.length ≤ 900400 by have h1_ := M1.out; have h2_ := M2.out; have h3_ := M3.out; have h4_ := M4.out; have h5_ := M5.out; (try have h6_ := LY66.out); (try have h7_ := LY70.out); (try have h8_ := LY76.out); (try have h9_ := LY82.out); rw [hy82, List.length_append]; (try simp only [List.length_cons, List.length_nil]); omega); clear hy82; obtain ⟨A82, c82, e82⟩ := Kd.R_slice ho; subst e82; have U11 := mK (U10.out.app ho hb hg hat); clear ho hb hg hat U10; refine hK.out _ _ (impl_table.co U11.out) (fun hHeld => ?_); clear hK K; refine norm_ (a' := ?_) ?_ ?_; rotate_left
    ·show Act.put _ (some 82) _ = _
     simp only [Act.put, sq_a, sq_b, sq_c, i64_w, i32_w]; rfl
    refine on_ 7 84 (fun K hK => ?_); refine Kd.R_append_rows_step (Kd.int .u8) (w0 := w) w.heap.size (by rfl) (.tmp 82) (.tmp 83) 24 5 (.int .u8 0) 1 rfl Try.underlying24 info5 rfl (by decide) (by omega) (.slice A82 y82.length c82) y82 [84, 66, 76, 49] _ _ _ (fun _ => True) (fun _ => False) rfl rfl ?aO ?aR (fun _ _ h => h) (fun _ h => h.elim) (fun _ _ => trivial) ?aB ?aS ?aL ?_; (case aR => exact (Kd.R_reads' (U11.out.row ((.slice A83 4 c83), [84, 66, 76, 49]) (by simp))).2.2); (case aB => exact U11.out.bel); (case aS => exact U11.out.bel.size); (case aO => exact U11.out.row ((.slice A82 y82.length c82), y82) (by simp)); (case aL => have h1_ := M1.out; have h2_ := M2.out; have h3_ := M3.out; have h4_ := M4.out; have h5_ := M5.out; (try have h6_ := LY66.out); (try have h7_ := LY70.out); (try have h8_ := LY76.out); (try have h9_ := LY82.out); (try simp only [List.length_cons, List.length_nil]); omega); intro v84 w84 ho hb hg hat; obtain ⟨y84, hy84⟩ : ∃ y, y = y82 ++ [84, 66, 76, 49] := ⟨_, rfl⟩; rw [← hy84] at ho; have Ny84 := Aside0.mk hy84; have LY84 := mK (show y84.length ≤ 900404 by have h1_ := M1.out; have h2_ := M2.out; have h3_ := M3.out; have h4_ := M4.out; have h5_ := M5.out; (try have h6_ := LY66.out); (try have h7_ := LY70.out); (try have h8_ := LY76.out); (try have h9_ := LY82.out); rw [hy84, List.length_append]; (try simp only [List.length_cons, List.length_nil]); omega); clear hy84; obtain ⟨A84, c84, e84⟩ := Kd.R_slice ho; subst e84; have U12 := mK ((U11.out.app ho hb hg hat).sub (List.sublist_append_left [_] [_, _])); clear ho hb hg hat U11; refine hK.out _ _ (impl_table.co U12.out) (fun hHeld => ?_); clear hK K; refine norm_ (a' := ?_) ?_ ?_; rotate_left
    ·show Act.put _ (some 84) _ = _
     simp only [Act.put, sq_a, sq_b, sq_c, i64_w, i32_w]; rfl
    refine pu_ 8 4 ?_
    refine done_ (by kernel_rfl) ?_; refine OnlyN.normal ?_; refine hK3 _ _ ?_; clear hK3 K3 hHeld; have hD9 := U12.out.oth.same D _ HDC.out rfl; refine wpIn_ret ?_; refine ⟨by simp, .inl ⟨_, _, rfl, run_takeDeferred hD9, ?_⟩⟩
    have Z := fun o9 => Sn.turned U12.out (by intro q hq; simp only [impl_table.KK, List.mem_cons, List.not_mem_nil, or_false] at hq; rcases hq with rfl | rfl | rfl | rfl <;> rfl) (grownBy_putObj' w84 D o9) (fun r e => by cases e; exact ⟨Nat.le_trans W8B.out HD.out, _, hD9, rfl⟩)
    have hfin : y84 = r := by rw [Ny84.out, Ny82.out, NY76.out, Ny70.out, Ny66.out]; exact HR.out
    subst hfin; exact ⟨_, results_tmp rfl _ _ _, _, rfl, (Z _).row _ (List.mem_cons_self ..), (Z _).bel⟩
  ·refine Kd.R_lit_step (Kd.int .u8) _ 5 (by rfl) (N := 83) rfl (xs := ([84, 66, 76, 49] : List Int)) (inner := [.int .u8 84, .int .u8 66, .int .u8 76, .int .u8 49]) (ok := fun _ => True) (okp := fun _ => True) ?hr6 (Reps.one (show Kd.M (Kd.int .u8) _ _ _ 84 [.int .u8 84] from rfl) (Reps.one (show Kd.M (Kd.int .u8) _ _ _ 66 [.int .u8 66] from rfl) (Reps.one (show Kd.M (Kd.int .u8) _ _ _ 76 [.int .u8 76] from rfl) (Reps.one (show Kd.M (Kd.int .u8) _ _ _ 49 [.int .u8 49] from rfl) (Reps.none _ _))))) (fun _ hk => hk) trivial (Below.refl _ _) (Nat.le_refl _) (by simp) ?_
   (case hr6 => first | (go_simp; done) | (go_simp; rfl)); intro v83 w83 ho hb hg_ hnew_; clear hg_ hnew_; obtain ⟨A83, c83, e83⟩ := Kd.R_slice ho; subst e83; have U13 := mK (U0.out.add ho hb); clear ho hb U0; refine hK.out _ _ (impl_table.co U13.out) (fun hHeld => ?_); clear hK K; refine norm_ (a' := ?_) ?_ ?_; rotate_left
   ·show Act.put _ (some 83) _ = _
    simp only [Act.put, sq_a, sq_b, sq_c, i64_w, i32_w]; rfl
   refine on_ 2 79 (fun K hK => ?_); refine call_ 56 #[(.slice A76 y76.length c76)] (by rfl) rfl ?hrun ?_; (case hrun => first | (go_simp; done) | (go_simp; rfl)); (with_reducible refine (impl_Crc32c.calls k A76 c76 y76 cr _ (Kd.R_reads' (U13.out.row ((.slice A76 y76.length c76), y76) (by simp))).2.2 (Kd.R_reads' (U13.out.row ((.slice A76 y76.length c76), y76) (by simp))).2.1 HCR3.out).mono ?_); rintro e w79 ⟨rfl, hd79⟩; refine ⟨_, rfl, ?_⟩; have U14 := mK (U13.out.step hd79.below); clear hd79 U13; refine hK.out _ _ (impl_table.co U14.out) (fun hHeld => ?_); clear hK K; refine norm_ (a' := ?_) ?_ ?_; rotate_left
   ·show Act.put _ (some 79) _ = _
    simp only [Act.put, sq_a, sq_b, sq_c, i64_w, i32_w]; rfl
   refine pu_ 3 80 ?_
   refine on_ 4 81 (fun K hK => ?_); refine call_ 54 #[.int .i64 (wrap64 cr)] (by rfl) rfl ?hrun ?_; (case hrun => first | (go_simp; done) | (go_simp; rfl)); (with_reducible refine (impl_fixed.calls k (wrap64 cr) e4 _ HE4.out).mono ?_); rintro e w81 ⟨v81, rfl, ho, hb⟩; refine ⟨_, rfl, ?_⟩; obtain ⟨A81, c81, e81⟩ := Kd.R_slice ho; subst e81; have U15 := mK (U14.out.add ho hb); clear ho hb U14; refine hK.out _ _ (impl_table.co U15.out) (fun hHeld => ?_); clear hK K; refine norm_ (a' := ?_) ?_ ?_; rotate_left
   ·show Act.put _ (some 81) _ = _
    simp only [Act.put, sq_a, sq_b, sq_c, i64_w, i32_w]; rfl
   refine on_ 5 82 (fun K hK => ?_); replace U15 := mK (U15.out.perm (List.perm_append_comm (l₁ := [_, _]) (l₂ := [_]))); refine Kd.R_append_rows_step (Kd.int .u8) (w0 := w) w.heap.size (by rfl) (.tmp 77) (.tmp 81) 24 5 (.int .u8 0) 1 rfl Try.underlying24 info5 rfl (by decide) (by omega) (.slice A76 y76.length c76) y76 e4 _ _ _ (fun _ => True) (fun _ => False) rfl rfl ?aO ?aR (fun _ _ h => h) (fun _ h => h.elim) (fun _ _ => trivial) ?aB ?aS ?aL ?_; (case aR => exact (Kd.R_reads' (U15.out.row ((.slice A81 e4.length c81), e4) (by simp))).2.2); (case aB => exact U15.out.bel); (case aS => exact U15.out.bel.size); (case aO => exact U15.out.row ((.slice A76 y76.length c76), y76) (by simp)); (case aL => have h1_ := M1.out; have h2_ := M2.out; have h3_ := M3.out; have h4_ := M4.out; have h5_ := M5.out; (try have h6_ := LY66.out); (try have h7_ := LY70.out); (try have h8_ := LY76.out); (try have h9_ := LY82.out); (try simp only [List.length_cons, List.length_nil]); omega); intro v82 w82 ho hb hg hat; obtain ⟨y82, hy82⟩ : ∃ y, y = y76 ++ e4 := ⟨_, rfl⟩; rw [← hy82] at ho; have Ny82 := Aside0.mk hy82; have LY82 := mK (show y82.length ≤ 900400 by have h1_ := M1.out; have h2_ := M2.out; have h3_ := M3.out; have h4_ := M4.out; have h5_ := M5.out; (try have h6_ := LY66.out); (try have h7_ := LY70.out); (try have h8_ := LY76.out); (try have h9_ := LY82.out); rw [hy82, List.length_append]; (try simp only [List.length_cons, List.length_nil]); omega); clear hy82; obtain ⟨A82, c82, e82⟩ := Kd.R_slice ho; subst e82; have U16 := mK (U15.out.app ho hb hg hat); clear ho hb hg hat U15; refine hK.out _ _ (impl_table.co U16.out) (fun hHeld => ?_); clear hK K; refine norm_ (a' := ?_) ?_ ?_; rotate_left
   ·show Act.put _ (some 82) _ = _
    simp only [Act.put, sq_a, sq_b, sq_c, i64_w, i32_w]; rfl
   refine on_ 7 84 (fun K hK => ?_); refine Kd.R_append_rows_step (Kd.int .u8) (w0 := w) w.heap.size (by rfl) (.tmp 82) (.tmp 83) 24 5 (.int .u8 0) 1 rfl Try.underlying24 info5 rfl (by decide) (by omega) (.slice A82 y82.length c82) y82 [84, 66, 76, 49] _ _ _ (fun _ => True) (fun _ => False) rfl rfl ?aO ?aR (fun _ _ h => h) (fun _ h => h.elim) (fun _ _ => trivial) ?aB ?aS ?aL ?_; (case aR => exact (Kd.R_reads' (U16.out.row ((.slice A83 4 c83), [84, 66, 76, 49]) (by simp))).2.2); (case aB => exact U16.out.bel); (case aS => exact U16.out.bel.size); (case aO => exact U16.out.row ((.slice A82 y82.length c82), y82) (by simp)); (case aL => have h1_ := M1.out; have h2_ := M2.out; have h3_ := M3.out; have h4_ := M4.out; have h5_ := M5.out; (try have h6_ := LY66.out); (try have h7_ := LY70.out); (try have h8_ := LY76.out); (try have h9_ := LY82.out); (try simp only [List.length_cons, List.length_nil]); omega); intro v84 w84 ho hb hg hat; obtain ⟨y84, hy84⟩ : ∃ y, y = y82 ++ [84, 66, 76, 49] := ⟨_, rfl⟩; rw [← hy84] at ho; have Ny84 := Aside0.mk hy84; have LY84 := mK (show y84.length ≤ 900404 by have h1_ := M1.out; have h2_ := M2.out; have h3_ := M3.out; have h4_ := M4.out; have h5_ := M5.out; (try have h6_ := LY66.out); (try have h7_ := LY70.out); (try have h8_ := LY76.out); (try have h9_ := LY82.out); rw [hy84, List.length_append]; (try simp only [List.length_cons, List.length_nil]); omega); clear hy84; obtain ⟨A84, c84, e84⟩ := Kd.R_slice ho; subst e84; have U17 := mK ((U16.out.app ho hb hg hat).sub (List.sublist_append_left [_] [_, _])); clear ho hb hg hat U16; refine hK.out _ _ (impl_table.co U17.out) (fun hHeld => ?_); clear hK K; refine norm_ (a' := ?_) ?_ ?_; rotate_left
   ·show Act.put _ (some 84) _ = _
    simp only [Act.put, sq_a, sq_b, sq_c, i64_w, i32_w]; rfl
   refine pu_ 8 4 ?_
   refine done_ (by kernel_rfl) ?_; refine OnlyN.normal ?_; refine hK3 _ _ ?_; clear hK3 K3 hHeld; have hD9 := U17.out.oth.same D _ HDC.out rfl; refine wpIn_ret ?_; refine ⟨by simp, .inl ⟨_, _, rfl, run_takeDeferred hD9, ?_⟩⟩
   have Z := fun o9 => Sn.turned U17.out (by intro q hq; simp only [impl_table.KK, List.mem_cons, List.not_mem_nil, or_false] at hq; rcases hq with rfl | rfl | rfl | rfl <;> rfl) (grownBy_putObj' w84 D o9) (fun r e => by cases e; exact ⟨Nat.le_trans W8B.out HD.out, _, hD9, rfl⟩)
   have hfin : y84 = r := by rw [Ny84.out, Ny82.out, NY76.out, Ny70.out, Ny66.out]; exact HR.out
   subst hfin; exact ⟨_, results_tmp rfl _ _ _, _, rfl, (Z _).row _ (List.mem_cons_self ..), (Z _).bel⟩
 case body =>
  rintro l pre ⟨j, hj⟩ W ⟨vo, vi, hS⟩ hlt; clear hcs hcn hK2 K2 S8 H; obtain ⟨hv, hrc, hpos⟩ := impl_table.rd HR0.out hj; obtain ⟨q1, q2, q3, q4⟩ := impl_table.bb_le (G2.out j hj)
  have hjs : ∀ i ∈ pre.map (·.1), i < impl_table.N l0 := by
   intro i hi; obtain ⟨y, _, rfl⟩ := List.mem_map.1 hi; exact y.2
  obtain ⟨q5, q6⟩ := impl_table.run_le G2.out G3.out (pre.map (·.1)) hjs (by rw [List.length_map]; have := impl_table.N_le G1.out; unfold impl_table.N at this; omega); rw [List.length_map] at q5 q6
  have hlen : pre.length ≤ 100 := by have := impl_table.N_le G1.out; unfold impl_table.N at this; omega
  have hM : impl_table.M = 1000000000 := rfl; obtain ⟨q7, q8⟩ := impl_table.pv_le (G3.out (impl_table.run k l0 (pre.map (·.1))).1.length (by omega)); obtain ⟨q9, q10⟩ := impl_table.pv_le (G3.out (impl_table.bb k l0 j).length (by omega)); have hrun := impl_table.run_snoc k l0 (pre.map (·.1)) j; simp only [impl_table.step] at hrun; obtain ⟨ad9, A7, c7, e9, hx0, hz9⟩ := at_T51 hrc (((impl_table.ch l0 j).length : Int) - 1) (by omega) (by omega); clear hz9
  cases e9
  have hky : (rd_T51 (impl_table.ch l0 j) (((impl_table.ch l0 j).length : Int) - 1)).f0 = impl_table.ky l0 j := rfl; rw [hky, show (((impl_table.ch l0 j).length : Int) - 1).toNat = (impl_table.ch l0 j).length - 1 by omega] at hx0; generalize impl_table.ky l0 j = s0 at hx0 q4 hky; generalize (impl_table.run k l0 (pre.map (·.1))).1 = o at hS q5 q7 q8 hrun; generalize (impl_table.run k l0 (pre.map (·.1))).2 = ix at hS q6 hrun; generalize impl_table.bb k l0 j = b at q1 q3 q9 q10 hrun; generalize impl_table.ss k l0 j = s at q2 q4 hrun; generalize impl_table.pv k o.length = p1 at q7 q8 hrun; generalize impl_table.pv k b.length = p2 at q9 q10 hrun
  dsimp only
  generalize impl_table.ch l0 j = c at hrc hpos hx0 q3 hky ⊢; generalize ad.add (4 * j * 9) = ac at hrc hx0 ⊢; have HRC := Aside0.mk hrc; have HX0 := Aside0.mk hx0; have HBB := Aside0.mk q3; have HSZ := Aside0.mk q4; have HP1 := Aside0.mk q8; have HP2 := Aside0.mk q10; have HRUN := Aside0.mk hrun; have LB := Aside0.mk q1; have LS := Aside0.mk q2; have LO := mK (show o.length ≤ 100000000 by omega); have LI := mK (show ix.length ≤ 100020000 by omega); have LP1 := Aside0.mk q7; have LP2 := Aside0.mk q9; have HPOS := Aside0.mk hpos; clear hv hrc hx0 q1 q2 q3 q4 q5 q6 q7 q8 q9 q10 hrun hlen hM hky hjs hpos; obtain ⟨Ao, co, eo⟩ := Kd.R_slice (hS.row (vo, o) (by simp))
  simp only at eo
  subst eo; obtain ⟨Ai, ci, ei⟩ := Kd.R_slice (hS.row (vi, ix) (by simp))
  simp only at ei
  subst ei; have S0 := Aside0.mk hS; clear hS; refine wpIn_block ?_
  refine wpIn_seq_k fun K hK => ?_
  refine regionRound_ (by kernel_rfl) ?_
  go_wp2_with (go_at_call 48; (with_reducible refine (impl_blockBytes.calls k (some ac) c.length c b _ (Kd.C_below HRC.out (Sn.bel (snK S0.out))) (Nat.le_refl _) HBB.out).mono ?_); rintro e w2 ⟨v20, rfl, ho, hb⟩; obtain ⟨A20, c20, e20⟩ := Kd.R_slice ho; subst e20; have S1 := mK (Sn.add (snK S0.out) ho hb); clear ho hb)
  refine OnlyN.normal ?_; refine hK _ _ ?_; clear hK K
  refine wpIn_seq_k fun K3 hK3 => ?_
  have hkey : ∀ V, Below w.heap.size w V → V.cell? (ac.add ((c.length - 1) * 9)) = some (.string s0) := fun V hV => (hV.cell (World.block_lt_of_cell? w _ HX0.out)).trans HX0.out
  have KEY := Aside0.mk hkey; clear hkey; refine startRound_ (n := 11) (S := fun w' => w'.cell? ⟨Bi, 0, none⟩ = some (.slice Ai ix.length ci) ∧ w'.cell? (ac.add ((c.length - 1) * 9)) = some (.string s0)) (ds := [10]) bq17_16 (by kernel_rfl) (by kernel_rfl) rfl rfl ⟨impl_table.ci S1.out.drew, KEY.out _ S1.out.drew.bel⟩ (fun hHeld => ?_); have S1d := Aside0.mk S1.out.drew; generalize w2.drew = w3' at S1d hHeld ⊢; clear S1; have hpos := HPOS.out
  have hi0 : 1 ≤ (c.length : Int) := by omega
  have hi1 : ((c.length : Int) - 1).toNat = c.length - 1 := by omega
  have hi2 : (c.length : Int) - 1 < (c.length : Int) := by omega
  have hiw : IntKind.i64.wrap ((c.length : Int) - 1) = (c.length : Int) - 1 := by have h1_ := HRC.out.2.1; rw [i64_w]; unfold wrap64; omega
  refine tk_ 0 21 hHeld ?_
  refine pu_ 1 22 ?_
  refine pu_ 2 23 ?_
  refine pu_ 3 24 ?_
  refine pu_ 4 25 ?_
  refine pu_ 5 26 ?_
  refine pu_ 6 27 ?_
  refine tk_ 7 28 hHeld ?_
  clear hi0 hi1 hi2 hpos; refine on_ 8 29 (fun K hK => ?_); refine call_ 49 #[.string s0] (by rfl) rfl ?hrun ?_; (case hrun => first | (go_simp; done) | (go_simp; rfl)); (with_reducible refine (impl_sized.calls k s0 s _ HSZ.out).mono ?_); rintro e w29 ⟨v29, rfl, ho, hb⟩; refine ⟨_, rfl, ?_⟩; obtain ⟨A29, c29, e29⟩ := Kd.R_slice ho; subst e29; have S2 := mK ((S1d.out.add ho hb).perm (List.perm_append_comm (l₁ := [_, _, _]) (l₂ := [_]))); clear ho hb S1d; refine hK.out _ _ ⟨impl_table.ci S2.out, KEY.out _ S2.out.bel⟩ (fun hHeld => ?_); clear hK K; refine norm_ (a' := ?_) ?_ ?_; rotate_left
  ·show Act.put _ (some 29) _ = _
   simp only [Act.put, sq_a, sq_b, sq_c, i64_w, i32_w]; rfl
  refine on_ 9 30 (fun K hK => ?_); refine Kd.R_append_rows_step (Kd.int .u8) (w0 := w) w.heap.size (by rfl) (.tmp 21) (.tmp 29) 24 5 (.int .u8 0) 1 rfl Try.underlying24 info5 rfl (by decide) (by omega) (.slice Ai ix.length ci) ix s _ _ _ (fun _ => True) (fun _ => False) rfl rfl ?aO ?aR (fun _ _ h => h) (fun _ h => h.elim) (fun _ _ => trivial) ?aB ?aS ?aL ?_; (case aR => exact (Kd.R_reads' (S2.out.row ((.slice A29 s.length c29), s) (by simp))).2.2); (case aB => exact S2.out.bel); (case aS => exact S2.out.bel.size); (case aO => exact S2.out.row ((.slice Ai ix.length ci), ix) (by simp)); (case aL => have h1_ := LI.out; have h2_ := LS.out; have h3_ := LP1.out; have h4_ := LP2.out; have h5_ := LO.out; have h6_ := LB.out; (try have h7_ := LY30.out); (try have h8_ := LY36.out); omega); intro v30 w30 ho hb hg hat; obtain ⟨y30, hy30⟩ : ∃ y, y = ix ++ s := ⟨_, rfl⟩; rw [← hy30] at ho; have NY30 := Aside0.mk hy30; have LY30 := mK (show y30.length ≤ 200000000 by have h1_ := LI.out; have h2_ := LS.out; have h3_ := LP1.out; have h4_ := LP2.out; rw [hy30, List.length_append]; omega); clear hy30; obtain ⟨A30, c30, e30⟩ := Kd.R_slice ho; subst e30; have S3 := mK (S2.out.app ho hb hg hat).swap.drop1; clear ho hb hg hat S2; refine hK.out _ _ ⟨impl_table.ci S3.out, KEY.out _ S3.out.bel⟩ (fun hHeld => ?_); clear hK K; refine norm_ (a' := ?_) ?_ ?_; rotate_left
  ·show Act.put _ (some 30) _ = _
   simp only [Act.put, sq_a, sq_b, sq_c, i64_w, i32_w]; rfl
  have hx : w30.cell? ⟨Bi, 0, none⟩ = some (.slice Ai ix.length ci) := impl_table.ci S3.out; have hf := blk_frozen (impl_table.ki S3.out) 0; refine last_ (i := 10) (N := none) bq17_27 rfl rfl (by kernel_rfl) (by decide) (fun K hK => ?_); refine skip_ (w1 := ?_) (by rfl) rfl ?_ ?_; rotate_left; · go_simp; rfl
  refine hK.out _ _ ?_; clear hK K; refine done_ (by kernel_rfl) ?_; refine OnlyN.normal ?_; refine hK3 _ _ ?_; clear hK3 K3 hx hf hHeld; have S4 := mK (impl_table.si S3.out DS.out (.slice A30 y30.length c30)); generalize w30.setCell ⟨Bi, 0, none⟩ (.slice A30 y30.length c30) = w31 at S4 ⊢; clear S3
  refine wpIn_seq_k fun K3 hK3 => ?_
  refine startRound_ (n := 12) (S := fun w' => w'.cell? ⟨Bi, 0, none⟩ = some (.slice A30 y30.length c30) ∧ w'.cell? ⟨Bo, 0, none⟩ = some (.slice Ao o.length co)) (ds := [11]) bq17_28 (by kernel_rfl) (by kernel_rfl) rfl rfl ⟨impl_table.ci S4.out.drew, impl_table.co S4.out.drew⟩ (fun hHeld => ?_); have S4d := Aside0.mk S4.out.drew; generalize w31.drew = w32 at S4d hHeld ⊢; clear S4
  have hu1 : IntKind.u64.wrap (o.length : Int) = (o.length : Int) := by have h1_ := LO.out; simp [IntKind.wrap, IntKind.bits, IntKind.signed]; omega
  have hu2 : IntKind.u64.wrap (b.length : Int) = (b.length : Int) := by have h1_ := LB.out; simp [IntKind.wrap, IntKind.bits, IntKind.signed]; omega
  refine tk_ 0 31 hHeld ?_
  refine tk_ 1 32 hHeld ?_
  refine pu_ 2 33 ?_
  refine pu_ 3 34 ?_
  refine pu_ 6 37 ?_
  refine pu_ 7 38 ?_
  refine pu_ 8 39 ?_
  clear hu1 hu2; refine on_ 4 35 (fun K hK => ?_); refine call_ 50 #[.int .u64 (o.length : Int)] (by rfl) rfl ?hrun ?_; (case hrun => first | (go_simp; done) | (go_simp; rfl)); (with_reducible refine (impl_PutVar.calls k (o.length : Int) p1 _ HP1.out).mono ?_); rintro e w35 ⟨v35, rfl, ho, hb⟩; refine ⟨_, rfl, ?_⟩; obtain ⟨A35, c35, e35⟩ := Kd.R_slice ho; subst e35; have S5 := mK (S4d.out.add ho hb).swap; clear ho hb S4d; refine hK.out _ _ ⟨impl_table.ci S5.out, impl_table.co S5.out⟩ (fun hHeld => ?_); clear hK K; refine norm_ (a' := ?_) ?_ ?_; rotate_left
  ·show Act.put _ (some 35) _ = _
   simp only [Act.put, sq_a, sq_b, sq_c, i64_w, i32_w]; rfl
  refine on_ 5 36 (fun K hK => ?_); refine Kd.R_append_rows_step (Kd.int .u8) (w0 := w) w.heap.size (by rfl) (.tmp 31) (.tmp 35) 24 5 (.int .u8 0) 1 rfl Try.underlying24 info5 rfl (by decide) (by omega) (.slice A30 y30.length c30) y30 p1 _ _ _ (fun _ => True) (fun _ => False) rfl rfl ?aO ?aR (fun _ _ h => h) (fun _ h => h.elim) (fun _ _ => trivial) ?aB ?aS ?aL ?_; (case aR => exact (Kd.R_reads' (S5.out.row ((.slice A35 p1.length c35), p1) (by simp))).2.2); (case aB => exact S5.out.bel); (case aS => exact S5.out.bel.size); (case aO => exact S5.out.row ((.slice A30 y30.length c30), y30) (by simp)); (case aL => have h1_ := LI.out; have h2_ := LS.out; have h3_ := LP1.out; have h4_ := LP2.out; have h5_ := LO.out; have h6_ := LB.out; (try have h7_ := LY30.out); (try have h8_ := LY36.out); omega); intro v36 w36 ho hb hg hat; obtain ⟨y36, hy36⟩ : ∃ y, y = y30 ++ p1 := ⟨_, rfl⟩; rw [← hy36] at ho; have NY36 := Aside0.mk hy36; have LY36 := mK (show y36.length ≤ 200000000 by have h1_ := LI.out; have h2_ := LS.out; have h3_ := LP1.out; have h4_ := LP2.out; rw [hy36, List.length_append]; rw [NY30.out, List.length_append]; omega); clear hy36; obtain ⟨A36, c36, e36⟩ := Kd.R_slice ho; subst e36; have S6 := mK (S5.out.app ho hb hg hat).swap.drop1; clear ho hb hg hat S5; refine hK.out _ _ ⟨impl_table.ci S6.out, impl_table.co S6.out⟩ (fun hHeld => ?_); clear hK K; refine norm_ (a' := ?_) ?_ ?_; rotate_left
  ·show Act.put _ (some 36) _ = _
   simp only [Act.put, sq_a, sq_b, sq_c, i64_w, i32_w]; rfl
  refine on_ 9 40 (fun K hK => ?_); refine call_ 50 #[.int .u64 (b.length : Int)] (by rfl) rfl ?hrun ?_; (case hrun => first | (go_simp; done) | (go_simp; rfl)); (with_reducible refine (impl_PutVar.calls k (b.length : Int) p2 _ HP2.out).mono ?_); rintro e w40 ⟨v40, rfl, ho, hb⟩; refine ⟨_, rfl, ?_⟩; obtain ⟨A40, c40, e40⟩ := Kd.R_slice ho; subst e40; have S7 := mK (S6.out.add ho hb).swap; clear ho hb S6; refine hK.out _ _ ⟨impl_table.ci S7.out, impl_table.co S7.out⟩ (fun hHeld => ?_); clear hK K; refine norm_ (a' := ?_) ?_ ?_; rotate_left
  ·show Act.put _ (some 40) _ = _
   simp only [Act.put, sq_a, sq_b, sq_c, i64_w, i32_w]; rfl
  refine on_ 10 41 (fun K hK => ?_); refine Kd.R_append_rows_step (Kd.int .u8) (w0 := w) w.heap.size (by rfl) (.tmp 36) (.tmp 40) 24 5 (.int .u8 0) 1 rfl Try.underlying24 info5 rfl (by decide) (by omega) (.slice A36 y36.length c36) y36 p2 _ _ _ (fun _ => True) (fun _ => False) rfl rfl ?aO ?aR (fun _ _ h => h) (fun _ h => h.elim) (fun _ _ => trivial) ?aB ?aS ?aL ?_; (case aR => exact (Kd.R_reads' (S7.out.row ((.slice A40 p2.length c40), p2) (by simp))).2.2); (case aB => exact S7.out.bel); (case aS => exact S7.out.bel.size); (case aO => exact S7.out.row ((.slice A36 y36.length c36), y36) (by simp)); (case aL => have h1_ := LI.out; have h2_ := LS.out; have h3_ := LP1.out; have h4_ := LP2.out; have h5_ := LO.out; have h6_ := LB.out; (try have h7_ := LY30.out); (try have h8_ := LY36.out); omega); intro v41 w41 ho hb hg hat; obtain ⟨y41, hy41⟩ : ∃ y, y = y36 ++ p2 := ⟨_, rfl⟩; rw [← hy41] at ho; have NY41 := Aside0.mk hy41; have LY41 := mK (show y41.length ≤ 200000000 by have h1_ := LI.out; have h2_ := LS.out; have h3_ := LP1.out; have h4_ := LP2.out; rw [hy41, List.length_append]; rw [NY36.out, List.length_append, NY30.out, List.length_append]; omega); clear hy41; obtain ⟨A41, c41, e41⟩ := Kd.R_slice ho; subst e41; have S8 := mK (S7.out.app ho hb hg hat).swap.drop1; clear ho hb hg hat S7; refine hK.out _ _ ⟨impl_table.ci S8.out, impl_table.co S8.out⟩ (fun hHeld => ?_); clear hK K; refine norm_ (a' := ?_) ?_ ?_; rotate_left
  ·show Act.put _ (some 41) _ = _
   simp only [Act.put, sq_a, sq_b, sq_c, i64_w, i32_w]; rfl
  have hx : w41.cell? ⟨Bi, 0, none⟩ = some (.slice A30 y30.length c30) := impl_table.ci S8.out; have hf := blk_frozen (impl_table.ki S8.out) 0; refine last_ (i := 11) (N := none) bq17_40 rfl rfl (by kernel_rfl) (by decide) (fun K hK => ?_); refine skip_ (w1 := ?_) (by rfl) rfl ?_ ?_; rotate_left; · go_simp; rfl
  refine hK.out _ _ ?_; clear hK K; refine done_ (by kernel_rfl) ?_; refine OnlyN.normal ?_; refine hK3 _ _ ?_; clear hK3 K3 hx hf hHeld; have S9 := mK ((impl_table.si S8.out DS.out (.slice A41 y41.length c41)).perm (List.perm_append_comm (l₁ := [_, _]) (l₂ := [_]))); generalize w41.setCell ⟨Bi, 0, none⟩ (.slice A41 y41.length c41) = w42 at S9 ⊢; clear S8; have hx : w42.cell? ⟨Bo, 0, none⟩ = some (.slice Ao o.length co) := impl_table.co S9.out; refine regionRound_ (by kernel_rfl) ?_
  go_wp2_with (first | ((with_reducible refine gate_builtin (b := .append) (xs := #[.tmp 42, .tmp 43]) rfl ?_); at_builtin; refine Kd.R_append_rows (Kd.int .u8) (w0 := w) w.heap.size rfl (.tmp 42) (.tmp 43) 24 5 (.int .u8 0) 1 rfl Try.underlying24 info5 rfl (by decide) (by omega) (.slice Ao o.length co) o b _ _ _ (fun _ => True) (fun _ => False) rfl rfl ?aO ?aR (fun _ _ h => h) (fun _ h => h.elim) (fun _ _ => trivial) ?aB ?aS ?aL ?_; (case aR => exact (Kd.R_reads' (S9.out.row ((.slice A20 b.length c20), b) (by simp))).2.2); (case aB => exact S9.out.bel); (case aS => exact S9.out.bel.size); (case aO => exact S9.out.row ((.slice Ao o.length co), o) (by simp)); (case aL => have h5_ := LO.out; have h6_ := LB.out; omega); intro v44 w44 ho hb hg hat; obtain ⟨y44, hy44⟩ : ∃ y, y = o ++ b := ⟨_, rfl⟩; rw [← hy44] at ho; have NY44 := Aside0.mk hy44; clear hy44; obtain ⟨A44, c44, e44⟩ := Kd.R_slice ho; subst e44; have S10 := mK ((S9.out.app ho hb hg hat).sub (List.sublist_append_left [_, _] [_])); clear ho hb hg hat S9 hx; have hx : w44.cell? ⟨Bo, 0, none⟩ = some (.slice Ao o.length co) := impl_table.co S10.out; have hf := blk_frozen (impl_table.ko S10.out) 0) | ((with_reducible refine gate_store (t := 24) (p := 5) rfl ?_); refine store_event (t := 24) (p := 5) (v := ?vo_9005) (w1 := w44.setCell ⟨Bo, 0, none⟩ (.slice A44 y44.length c44)) ?hg ?ho ?hn ?hr ?_; (case ho => rfl); (case hg => rfl); (case hn => rfl); (case hr => first | (go_simp; done) | (go_simp; rfl)); intro w45 hw; have S11 := mK (show Sn 5 w W w45 [(.slice A44 y44.length c44, y44), (.slice A41 y41.length c41, y41)] (impl_table.KK Bo Bi Bs Bn (.slice (some ad) l0.length c0) (.slice A44 y44.length c44) (.slice A41 y41.length c41)) from (by rw [hw]; exact impl_table.so S10.out DS.out _)); clear hw hx hf S10))
  refine OnlyN.normal ?_
  show KeepsFrom _ _ _ ∧ impl_tableck.Kp Bs Bn _ _ ∧ impl_table.Inv _ _ _ _ _ _ _ _ _ _
  refine ⟨S11.out.oth.from _, ⟨by rw [impl_table.ks S11.out, impl_table.ks S0.out], by rw [impl_table.kn S11.out, impl_table.kn S0.out]⟩, (.slice A44 y44.length c44), (.slice A41 y41.length c41), ?_⟩; rw [List.map_append, List.map_cons, List.map_nil, HRUN.out, ← NY44.out, ← NY30.out, ← NY36.out, ← NY41.out]; exact S11.out.restart
end
end Go.Proofs.Ytllmlnagihlokaa.PFnExactBoundsOf
