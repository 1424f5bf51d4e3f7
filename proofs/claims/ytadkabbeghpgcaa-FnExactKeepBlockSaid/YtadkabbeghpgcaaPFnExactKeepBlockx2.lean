-- Written for this claim by a program of this session: a scratch copy of the kit's print with patches of this session.
import Derived.Test.YtadkabbeghpgcaaPFnExactKeepBlockx0
import Derived.Test.YtadkabbeghpgcaaPFnExactKeepBlockx1
namespace Go.Proofs.Ytadkabbeghpgcaa.PFnExactKeepBlock
open Go.RowKit Go.Proofs.YtadkabbeghpgcaaW.PrintWords Go.Proofs.YtadkabbeghpgcaaW.PrintLast Go.Proofs.YtadkabbeghpgcaaW.PrintMore
attribute [local go_sem] max2_int min2_int max_two min_two max_three min_three max_four min_four hw_string_geq hw_string_gtr hw_string_leq   -- for this text's walks alone
set_option linter.unusedVariables false
set_option linter.unusedSimpArgs false

/-! ### slices_Delete_int_int: function 67, by hand -/
def slices_Delete_int_int.f (l0 : List Int) (i j : Int) : Option (List Int) := if 0 ≤ i ∧ i ≤ j ∧ j ≤ l0.length ∧ 0 < l0.length then some (l0.take i.toNat ++ l0.drop j.toNat) else none
theorem slices_Delete_int_int.cells {g cap : Nat} {cur : Array Value} {e : TypeId} {w : World} {l : List Int} (hb : w.heap[g]? = some (.cells cur e (0, 0))) (ht : cur.toList.take (l.length * 1) = encs (Value.int .i64) l) (hn : l.length ≤ cap) (hs : cur.size = cap * 1) : Go.Sort.Holds (Value.int .i64) w g 0 l.toArray := by
  intro j hj
  have hj2 : j < l.length := by simpa using hj
  refine ⟨?_, ?_⟩
  · rw [Nat.zero_add]
    refine (blk_cell hb j).trans ?_
    have h1 : cur[j]? = (cur.toList.take (l.length * 1))[j]? := by
      rw [List.getElem?_take_of_lt (by omega), Array.getElem?_toList]
    rw [h1, ht]
    simp [encs, hj2]
  · rw [Nat.zero_add]
    exact blk_frozen hb j
theorem slices_Delete_int_int.put {cap : Nat} {cur : Array Value} {n : Nat} {d : List Int} (hd : d.length = n) (hn : n ≤ cap) (hs : cur.size = cap * 1) (m : Nat) (hm : m ≤ n) : (Go.Sort.putCells (Value.int .i64) 0 d.toArray cur).toList.take (m * 1) = encs (Value.int .i64) (d.take m) := by
  apply List.ext_getElem?
  intro k
  by_cases hk : k < m
  · have h1 : k < cur.size := by omega
    have h2 : k < d.length := by omega
    rw [List.getElem?_take_of_lt (by omega)]
    simp [encs, Go.Sort.putCells, hk, h1, h2]
  · rw [List.getElem?_eq_none (by simp; omega), List.getElem?_eq_none (by simp [encs]; omega)]
set_option maxHeartbeats 8000000 in
set_option maxRecDepth 100000 in
theorem slices_Delete_int_int.calls (P0_ : Nat → Prop) (u9000_ : Value) (l0 : List Int) (a1 a2 : Int) (r1 : List Int) (w0 w : World) (hB : Below w0.heap.size w0 w) (ho0 : Kd.R (Kd.int .i64) 3 w w0.heap.size P0_ u9000_ l0) (h : slices_Delete_int_int.f l0 a1 a2 = some (r1)) :
    Calls Try.prog 67 #[u9000_, .int .i64 a1, .int .i64 a2] w fun e w' => ∃ v0_ : Value, e = .returned (v0_) ∧ Kd.R (Kd.int .i64) 3 w' w0.heap.size (fun k_ => (P0_ k_ ∨ w.heap.size ≤ k_)) v0_ r1 ∧ Below w0.heap.size w0 w' ∧ Kept w w' (fun k_ => P0_ k_) := by
  unfold slices_Delete_int_int.f at h
  by_cases hin : 0 ≤ a1 ∧ a1 ≤ a2 ∧ a2 ≤ l0.length ∧ 0 < l0.length
  · rw [if_pos hin] at h
    obtain rfl := Option.some.inj h
    clear h
    obtain ⟨h1, h2, h3, h4⟩ := hin
    obtain ⟨i, rfl⟩ : ∃ i : Nat, a1 = (i : Int) := ⟨a1.toNat, by omega⟩
    obtain ⟨j, rfl⟩ : ∃ j : Nat, a2 = (j : Int) := ⟨a2.toNat, by omega⟩
    have ho := Kd.own_of_R ho0
    obtain ⟨hlen, ⟨rfl, h0⟩ | ⟨g, cap, cur, rfl, hbase, hheap, hncap, hcap, hsize, htake⟩⟩ := ho
    · omega
    · have hg : g < w.heap.size := blk_lt hheap
      refine (Go.Proofs.Try.slices_Delete_int g 0 cap i j l0 w (slices_Delete_int_int.cells hheap htake hncap hsize) hncap hcap (by omega) (by omega)).mono ?_
      rintro e w' ⟨rfl, q, rfl⟩
      rw [Int.toNat_natCast, Int.toNat_natCast]
      have hcl : (l0.take i ++ l0.drop j).length = l0.length - (j - i) := by rw [List.length_append, List.length_take, List.length_drop]; omega
      obtain ⟨d, hd⟩ : ∃ d, d = l0.take i ++ l0.drop j ++ List.replicate (j - i) 0 := ⟨_, rfl⟩
      have hdl : d.length = l0.length := by rw [hd, List.length_append, hcl, List.length_replicate]; omega
      rw [← hd, ← hcl]
      have hw : ∀ i, i ≠ g → (Go.Sort.putRow (Value.int .i64) (Go.Sort.ahead w q) g 0 d.toArray).heap[i]? = w.heap[i]? := by
        intro i hne
        show (w.heap.modify g _)[i]? = _
        rw [Array.getElem?_modify, if_neg (fun e => hne e.symm)]
      have hgn : (Go.Sort.putRow (Value.int .i64) (Go.Sort.ahead w q) g 0 d.toArray).heap[g]? = some (.cells (Go.Sort.putCells (Value.int .i64) 0 d.toArray cur) 3 (0, 0)) := by
        show (w.heap.modify g _)[g]? = _
        rw [Array.getElem?_modify, if_pos rfl, hheap]
        rfl
      have hsz2 : w.heap.size ≤ (Go.Sort.putRow (Value.int .i64) (Go.Sort.ahead w q) g 0 d.toArray).heap.size := by simp
      refine ⟨_, rfl, ?_, ?_, ⟨hsz2, fun i hi hn => hw i (fun e => hn (e ▸ ho0.1 g rfl))⟩⟩
      · refine Kd.R_of_own (enc := Value.int .i64) ⟨by simp [encs], .inr ⟨g, cap, _, rfl, hbase, hgn, by omega, hcap, by simpa [Go.Sort.putCells] using hsize, ?_⟩⟩ (fun k hk => .inl (ho0.1 k hk))
        rw [slices_Delete_int_int.put hdl hncap hsize _ (by omega), hd]
        rw [List.take_left]
      · exact ⟨hB.os, hB.tape, hB.output, Nat.le_trans hB.size hsz2, fun i hi => (hw i (by omega)).trans (hB.block i hi)⟩
  · rw [if_neg hin] at h
    cases h

/-! ### impl_KeepBlock: function 32, by hand -/
theorem impl_KeepBlock.add_block (a : Addr) (i : Nat) : (a.add i).block = a.block := by unfold Addr.add; split <;> rfl
def impl_KeepBlock.upto {α : Type} (f : Nat → α) (k : Nat) : List α := (List.range k).map f
theorem impl_KeepBlock.upto_succ {α : Type} (f : Nat → α) (k : Nat) : impl_KeepBlock.upto f (k + 1) = impl_KeepBlock.upto f k ++ [f k] := by simp [impl_KeepBlock.upto, List.range_succ]
theorem impl_KeepBlock.upto_length {α : Type} (f : Nat → α) (k : Nat) : (impl_KeepBlock.upto f k).length = k := by simp [impl_KeepBlock.upto]
theorem impl_KeepBlock.upto_all (zs : List Int) : impl_KeepBlock.upto (fun j => zs[j]?.getD 0) zs.length = zs := by
  apply List.ext_getElem
  · simp [impl_KeepBlock.upto]
  · intro i h1 h2
    simp [impl_KeepBlock.upto, h2]
theorem impl_KeepBlock.upto_take (zs : List Int) {k : Nat} (hk : k ≤ zs.length) : impl_KeepBlock.upto (fun j => zs[j]?.getD 0) k = zs.take k := by
  apply List.ext_getElem
  · simp [impl_KeepBlock.upto, hk]
  · intro i h1 h2
    have : i < zs.length := by simp [impl_KeepBlock.upto] at h1; omega
    simp [impl_KeepBlock.upto, this]
section
attribute [local go_sem] Oper.semAt_some
set_option maxRecDepth 100000 in
set_option maxHeartbeats 2000000 in
/-- the iterator over a slice: for every loop body that keeps what lay below n₀ -/
theorem impl_KeepBlock.values1_in (F : Fence) (n : Nat) (h7 : F.fn 97) (hro : F.round = none) (hn : 1 ≤ n) (l Bs n₀ len cap : Nat) (ad : Addr) (zs : List Int) (hreach : len * 8 ≤ 140737488351232) (hb : ad.block < n₀) (J Jx : List Int → World → Prop)
    (hY : ∀ pre x W, J pre W → pre.length < len → YieldAt F (n - 1) Try.prog l #[.int .i64 x] W fun e W' =>
      (e = .returned (.bool true) ∧ J (pre ++ [x]) W' ∧ Below n₀ W W') ∨ (e = .returned (.bool false) ∧ Jx (pre ++ [x]) W'))
    (W : World) (hBs : W.cell? ⟨Bs, 0, none⟩ = some (.slice (some ad) len cap)) (hc : ∀ j, j < len → W.cell? (ad.add j) = some (.int .i64 (zs[j]?.getD 0))) (h0 : J [] W) :
    CallsIn F n Try.prog 97 #[.func (.yield l) #[] #[], .pointer (some ⟨Bs, 0, none⟩)] W fun e W' => (∃ v, e = .returned v) ∧
      ((∃ ys, ys = impl_KeepBlock.upto (fun j => zs[j]?.getD 0) len ∧ J ys W') ∨ (∃ pre, (∃ k, k ≤ len ∧ pre = impl_KeepBlock.upto (fun j => zs[j]?.getD 0) k) ∧ Jx pre W')) := by
  refine callsIn_of_wp Try.func97 rfl h7 ?_ hro
  simp only [Try.ntmps97, List.size_toArray, List.length_cons, List.length_nil, Nat.reduceAdd, Nat.reduceSub, Array.replicate_succ, Array.replicate_zero, List.push_toArray, List.append_toArray, List.nil_append, List.cons_append]
  gi_wp2
  gi_loopw [7] (fun i wr => ∃ k : Nat, k ≤ len ∧ i = .int .i64 k ∧ J (impl_KeepBlock.upto (fun j => zs[j]?.getD 0) k) wr ∧ Below n₀ W wr)
    (fun i _ => len - (intOf i).toNat)
  case atStart => exact ⟨0, Nat.zero_le _, rfl, h0, Below.refl _ _⟩
  case round =>
    obtain ⟨k, hk, rfl, hJs, hnx⟩ := hrel
    have hcx : k < len → wr.cell? (ad.add k) = some (.int .i64 (zs[k]?.getD 0)) := fun h => (hnx.cell (p := ad.add k) (by rw [impl_KeepBlock.add_block]; exact hb)).trans (hc k h)
    by_cases hlt : k < len
    · obtain ⟨fn, tmps, assign, body, hy, hR⟩ := hY _ (zs[k]?.getD 0) wr hJs (by rw [impl_KeepBlock.upto_length]; exact hlt)
      have hcx' := hcx hlt
      gi_wp2
      refine hR.mono ?_
      rintro e W3 (⟨rfl, hJ3, hk3⟩ | ⟨rfl, hJx3⟩)
      · gi_wp2
        go_roundw
        case rel => exact ⟨k + 1, by omega, by simp, by rw [impl_KeepBlock.upto_succ]; exact hJ3, hnx.trans hk3⟩
        case measure => simp [intOf]; omega
      · gi_wp2
        refine bodyPost_ret (results_none rfl _ _ _) rfl ?_
        exact ⟨⟨_, rfl⟩, .inr ⟨_, ⟨k + 1, by omega, (impl_KeepBlock.upto_succ _ _).symm⟩, hJx3⟩⟩
    · obtain rfl : k = len := by omega
      gi_wp2
      go_end0
      exact ⟨⟨_, rfl⟩, .inl ⟨_, rfl, hJs⟩⟩
/-- the slice value sv holds these numbers, in a block below n₀; or it is nil and there are none -/
def impl_KeepBlock.Ints (n₀ : Nat) (W : World) (sv : Value) (zs : List Int) : Prop :=
  (∃ A cap, sv = .slice A 0 cap ∧ zs = []) ∨ ∃ ad cap, sv = .slice (some ad) zs.length cap ∧ ad.block < n₀ ∧ ∀ j, j < zs.length → W.cell? (ad.add j) = some (.int .i64 (zs[j]?.getD 0))
theorem impl_KeepBlock.Ints.below {n₀ : Nat} {A B : World} (h : Below n₀ A B) {sv : Value} {zs : List Int} : impl_KeepBlock.Ints n₀ A sv zs → impl_KeepBlock.Ints n₀ B sv zs
  | .inl e => .inl e
  | .inr ⟨ad, cap, e, hb, hc⟩ => .inr ⟨ad, cap, e, hb, fun j hj => (h.cell (p := ad.add j) (by rw [impl_KeepBlock.add_block]; exact hb)).trans (hc j hj)⟩
set_option maxRecDepth 100000 in
set_option maxHeartbeats 1000000 in
theorem impl_KeepBlock.values1_nil_in (F : Fence) (n : Nat) (h7 : F.fn 97) (hro : F.round = none) (l Bs cap : Nat) (A0 : Option Addr) (J : List Int → World → Prop) (W : World) (hBs : W.cell? ⟨Bs, 0, none⟩ = some (.slice A0 0 cap)) (h0 : J [] W) :
    CallsIn F n Try.prog 97 #[.func (.yield l) #[] #[], .pointer (some ⟨Bs, 0, none⟩)] W fun e W' => (∃ v, e = .returned v) ∧ J [] W' := by
  refine callsIn_of_wp Try.func97 rfl h7 ?_ hro
  simp only [Try.ntmps97, List.size_toArray, List.length_cons, List.length_nil, Nat.reduceAdd, Nat.reduceSub, Array.replicate_succ, Array.replicate_zero, List.push_toArray, List.append_toArray, List.nil_append, List.cons_append]
  gi_wp2
  gi_loopw [7] (fun i wr => i = .int .i64 0 ∧ J [] wr) (fun _ _ => 0)
  case atStart => exact ⟨rfl, h0⟩
  case round =>
    obtain ⟨rfl, hJs⟩ := hrel
    gi_wp2
    go_end0
    exact ⟨⟨_, rfl⟩, hJs⟩
/-- the iterator's value: all of zs come, in order; or a prefix -/
theorem impl_KeepBlock.values_stops (F : Fence) (n : Nat) (h7 : F.fn 97) (hro : F.round = none) (hn : 1 ≤ n) (Bs n₀ : Nat) (sv : Value) (zs : List Int) (hreach : zs.length * 8 ≤ 140737488351232) (w : World) (hBs : Bs < w.heap.size) (hn₀ : n₀ ≤ w.heap.size)
    (hc : w.cell? ⟨Bs, 0, none⟩ = some sv) (hI : impl_KeepBlock.Ints n₀ w sv zs) :
    SeqStopsK F n Try.prog 97 #[.pointer (some ⟨Bs, 0, none⟩)] (fun x : Int => #[Value.int .i64 x]) (Below n₀) (fun ys => ys = zs) (fun pre => pre <+: zs) zs.length w := fun l J Jx W hW _ _ hY h0 => by
  have hc' := (hW.cell (p := ⟨Bs, 0, none⟩) hBs).trans hc
  rcases hI.below (hW.mono hn₀) with ⟨A0, cap, rfl, rfl⟩ | ⟨ad, cap, rfl, hb, hcs⟩
  · exact (impl_KeepBlock.values1_nil_in F n h7 hro l Bs cap A0 J W hc' h0).mono fun e W' ⟨he, hj⟩ => ⟨he, .inl ⟨_, rfl, hj⟩⟩
  · refine (impl_KeepBlock.values1_in F n h7 hro hn l Bs n₀ zs.length cap ad zs hreach hb J Jx hY W hc' hcs h0).mono ?_
    rintro e W' ⟨he, ⟨ys, rfl, hj⟩ | ⟨pre, ⟨k, hk, rfl⟩, hj⟩⟩
    · exact ⟨he, .inl ⟨_, impl_KeepBlock.upto_all zs, hj⟩⟩
    · exact ⟨he, .inr ⟨_, by rw [impl_KeepBlock.upto_take zs hk]; exact List.take_prefix _ _, hj⟩⟩
set_option maxRecDepth 100000 in
set_option maxHeartbeats 2000000 in
/-- what the iterator gives is collected in a row of the call's own -/
theorem impl_KeepBlock.appendSeq_in (F : Fence) (n : Nat) (hF : ∀ f, F.fn f) (hro : F.round = none) (hn : 3 ≤ n) (Bx : Nat) (sv : Value) (zs : List Int) (hreach : zs.length * 8 ≤ 140737488351232) (w : World) (hBx : Bx < w.heap.size) (hc : w.cell? ⟨Bx, 0, none⟩ = some sv) (hI : impl_KeepBlock.Ints w.heap.size w sv zs) :
    CallsIn F n Try.prog 110 #[.slice none 0 0, .func (.func 97) #[] #[.pointer (some ⟨Bx, 0, none⟩)]] w fun e W' => ∃ v, e = .returned v ∧ W'.ownsRow w.heap.size 3 1 v zs.length (zs.map (Value.int .i64)) ∧ Below w.heap.size w W' := by
  obtain ⟨i0, hi, hz0, hz1, hz2⟩ := info_parts info3
  have h1 : 1 ≤ n := by omega
  refine callsIn_of_wp_marks Try.func110 rfl (hF _) ?_ hro
  simp only [Try.ntmps110, List.size_toArray, List.length_cons, List.length_nil, Nat.reduceAdd, Nat.reduceSub, Array.replicate_succ, Array.replicate_zero, List.push_toArray, List.append_toArray, List.nil_append, List.cons_append]
  gi_wp2
  have bS := Boxed.new w 23 (.slice none 0 0)
  have hB0 : Below w.heap.size w (w.alloc (.cells #[.slice none 0 0] 23)) := (Below.refl _ w).alloc (Nat.le_refl _) _
  refine wpIn_rangeFunc_ownG hro h1 (gf := 97) (lb := #[.pointer (some ⟨Bx, 0, none⟩)]) rfl (hF _) (enters_of Try.func97 (by kernel_rfl) rfl)
    (impl_KeepBlock.values_stops F (n - 1) (hF _) hro (by omega) Bx w.heap.size _ zs hreach _ (by simp; omega) (by simp) ((hB0.cell (p := ⟨Bx, 0, none⟩) hBx).trans hc) (hI.below hB0)) belowK_t (belowK_b (by simp)) (Below.refl _ _) (fun _ => rfl)
    (fun pre W => (∃ v, Boxed W w.heap.size 23 v ∧ W.ownsRow w.heap.size 3 1 v pre.length (pre.map (Value.int .i64)) ∧ True) ∧ Below w.heap.size w W)
    (fun _ _ _ => False)
    (OwnFrom.and (Own.from (holdsRow_own w.heap.size w.heap.size 23 3 1 List.length (fun pre => pre.map (Value.int .i64)) (fun _ _ => True)) _) (ownFrom_below (Nat.le_refl _) (by simp)))
    (fun _ _ _ _ _ hs _ _ => hs)
    ⟨⟨_, bS, ⟨rfl, .inl ⟨rfl, rfl⟩⟩, trivial⟩, hB0⟩
    (fun x => { tmps := #[.slice none 0 0, .func (.func 97) #[] #[.pointer (some ⟨Bx, 0, none⟩)], .pointer (some ⟨w.heap.size, 0, none⟩), undef, .slice none 0 0, .int .i64 x, .func (.func 97) #[] #[.pointer (some ⟨Bx, 0, none⟩)], .int .i64 x, undef, undef, undef, undef, undef], defers := [] }) ?assign ?body ?done ?stop
  case assign =>
    intro l x W K hK
    gi_wp2
    exact hK
  case body =>
    rintro l pre x W ⟨⟨v, hv, hrow, _⟩, hB⟩ hlt
    have hc2 := hv.cell
    have hf2 := hv.frozen
    gi_wp2_with (gi_at_builtin; refine wpListIn_append_own _ rfl _ _ 23 rfl w.heap.size 3 i0 (.int .i64 0) 1 8 Try.underlying23 hi hz0 hz1 hz2 rfl (by decide) _ _ _ rfl (hrow.alloc _) ⟨W.heap.size, 0, none⟩ 1 1 [.int .i64 x] rfl rfl (cell_one_new _ _ _) (by simp [Value.oneCell']) (by simp only [maxLen]; omega) (by omega) (by have := hB.size; simp; omega) ?_; intro v' w3 hown' hg3 hnil3; obtain ⟨hv3, hb5, hr5, hk5, hbel5⟩ := Boxed.appended hv (by decide) hrow hB.size (Nat.le_refl _) hown' hg3; have hc3 := hv3.cell; have hf3 := hv3.frozen; obtain ⟨g', cap', rfl⟩ := ownsRow_succ hown')
    exact ⟨hk5.from _, hbel5, ⟨_, hb5, by simpa using hr5, trivial⟩, hB.trans hbel5⟩
  case done =>
    rintro D ys W hD rfl ⟨⟨v, hv, hrow, _⟩, hB⟩ hK
    have hc2 := hv.cell
    gi_wp2
    refine ⟨by simp, .inl ⟨_, _, rfl, run_takeDeferred hK, ?_⟩⟩
    exact ⟨_, results_tmp rfl _ _ _, v, rfl, ownsRow_putObj hrow _ hK rfl, hB.trans (belowK_b (w := w) (Nat.le_refl _) W D _ _ (by simp at hD; omega) hK rfl rfl)⟩
  case stop =>
    rintro D c pre W _ _ h _
    exact h.elim
set_option maxHeartbeats 1000000 in
theorem impl_KeepBlock.values_calls (A : Option Addr) (n c : Nat) (w : World) : Calls Try.prog 62 #[.slice A n c] w fun e w' => e = .returned (.func (.func 97) #[] #[.pointer (some ⟨w.heap.size, 0, none⟩)]) ∧ w' = w.alloc (.cells #[.slice A n c] 23) := by
  refine (callsIn_wide (n := 1)).1 (callsIn_of_wp Try.func62 rfl trivial ?_ rfl)
  simp only [Try.ntmps62, List.size_toArray, List.length_cons, List.length_nil, Nat.reduceAdd, Nat.reduceSub, Array.replicate_succ, Array.replicate_zero, List.push_toArray, List.append_toArray, List.nil_append, List.cons_append]
  gi_wp2
  go_ret
  exact ⟨rfl, rfl⟩
end
theorem impl_KeepBlock.cell_lt {w : World} {p : Addr} {v : Value} (h : w.cell? p = some v) : p.block < w.heap.size := by
  apply Classical.byContradiction
  intro hn
  rw [World.cell?, Array.getElem?_eq_none (by omega)] at h
  cases h
theorem impl_KeepBlock.ints {w : World} {A : Option Addr} {c : Nat} {zs : List Int} (hr : Kd.C (Kd.int .i64) w A zs.length zs) : impl_KeepBlock.Ints w.heap.size w (.slice A zs.length c) zs := by
  by_cases h0 : zs.length = 0
  · refine .inl ⟨A, c, by rw [h0], List.eq_nil_of_length_eq_zero h0⟩
  · obtain ⟨ad, e, hx⟩ := Kd.at_int hr 0 (by omega) (by omega)
    subst e
    have hx0 := impl_KeepBlock.cell_lt hx
    rw [impl_KeepBlock.add_block] at hx0
    refine .inr ⟨ad, c, rfl, hx0, fun j hj => ?_⟩
    obtain ⟨ad2, e2, hy⟩ := Kd.at_int hr (j : Int) (by omega) (by omega)
    cases e2
    rw [Int.toNat_natCast] at hy
    rw [hy, rd, Int.toNat_natCast, List.getD_eq_getElem?_getD]
set_option maxHeartbeats 8000000 in
set_option maxRecDepth 100000 in
/-- slices.Sorted over the iterator that slices.Values makes -/
theorem impl_KeepBlock.sorted_calls (A : Option Addr) (c Bx : Nat) (zs r : List Int) (w : World) (hb : w.heap[Bx]? = some (.cells #[.slice A zs.length c] 23 (0, 0))) (hr : Kd.C (Kd.int .i64) w A zs.length zs) (hz : zs.length * 8 ≤ 140737488351232) (h : slices_Sort_int_int.f zs = some r) :
    Calls Try.prog 61 #[.func (.func 97) #[] #[.pointer (some ⟨Bx, 0, none⟩)]] w fun e w' => ∃ v0_ : Value, e = .returned v0_ ∧ Kd.R (Kd.int .i64) 3 w' w.heap.size (fun _ => True) v0_ r ∧ Below w.heap.size w w' := by
  have hcol : Calls Try.prog 95 #[.func (.func 97) #[] #[.pointer (some ⟨Bx, 0, none⟩)]] w fun e w' => ∃ v0_ : Value, e = .returned v0_ ∧ Kd.R (Kd.int .i64) 3 w' w.heap.size (fun _ => True) v0_ zs ∧ Below w.heap.size w w' := by
    have hseq : Calls Try.prog 110 #[.slice none 0 0, .func (.func 97) #[] #[.pointer (some ⟨Bx, 0, none⟩)]] w fun e W' => ∃ v, e = .returned v ∧ W'.ownsRow w.heap.size 3 1 v zs.length (zs.map (Value.int .i64)) ∧ Below w.heap.size w W' :=
      callsIn_wide.1 (impl_KeepBlock.appendSeq_in Fence.wide 5 (fun _ => trivial) rfl (by omega) Bx (.slice A zs.length c) zs hz w (blk_lt hb) ((blk_cell hb 0).trans rfl) (impl_KeepBlock.ints hr))
    go_enter Try.func95, Try.ntmps95
    go_wp2_with ((with_reducible refine gate_callee (f := 110) rfl ?_); refine goesL_ (some 4) rfl rfl Try.func110 (by kernel_rfl) rfl #[.slice none 0 0, .func (.func 97) #[] #[.pointer (some ⟨Bx, 0, none⟩)]] rfl (by (try simp only [List.map_toArray, List.map_cons, List.map_nil]); first | done | rfl) ?_; (refine hseq.mono ?_); rintro e w5 ⟨v5, rfl, hv5, hb5⟩; refine ⟨_, rfl, ?_⟩)
    go_ret
    exact ⟨v5, rfl, by (with_reducible repeat (first | apply Kd.R_drewN | apply Kd.R_drew)); exact Kd.R_of_own (enc := Value.int .i64) hv5 (fun _ _ => trivial), by (with_reducible repeat (first | apply pw_below_drewN | apply below_drew1)); exact hb5⟩
  have HB := Aside0.mk (Below.refl w.heap.size w)
  have HS := Aside0.mk h
  clear hb hr hz h
  go_enter Try.func61, Try.ntmps61
  go_wp2_with (first | ((with_reducible refine gate_callee (f := 95) rfl ?_); refine goesL_ (some 5) rfl rfl Try.func95 (by kernel_rfl) rfl #[.func (.func 97) #[] #[.pointer (some ⟨Bx, 0, none⟩)]] rfl (by (try simp only [List.map_toArray, List.map_cons, List.map_nil]); first | done | rfl) ?_; (refine hcol.mono ?_); rintro e w5 ⟨v5, rfl, hv5, hb5⟩; refine ⟨_, rfl, ?_⟩; clear HB; have HB := Aside0.mk hb5; have HO := Aside0.mk hv5; clear hb5 hv5 hcol) | ((with_reducible refine gate_callee (f := 96) rfl ?_); refine goesL_ (some 7) rfl rfl Try.func96 (by kernel_rfl) rfl #[v5] rfl (by (try simp only [List.map_toArray, List.map_cons, List.map_nil]); first | done | rfl) ?_; (with_reducible refine (slices_Sort_int_int.calls (fun _ => True) v5 zs r w _ ?sideB ?side1 HS.out).mono ?_); (case sideB => with_reducible repeat (first | exact HB.out | apply pw_below_drewN | apply below_drew1)); (case side1 => (with_reducible repeat (first | apply Kd.R_drewN | apply Kd.R_drew)); exact HO.out); rintro e w6 ⟨rfl, hv6, hb6, hk6⟩; refine ⟨_, rfl, ?_⟩; clear HB HO; have HB := Aside0.mk hb6; have HO := Aside0.mk hv6; clear hb6 hv6 hk6))
  go_ret
  exact ⟨v5, rfl, Kd.R_mono (by (with_reducible repeat (first | apply Kd.R_drewN | apply Kd.R_drew)); exact HO.out) (fun _ _ => trivial), by with_reducible repeat (first | exact HB.out | apply pw_below_drewN | apply below_drew1)⟩
/-- slices.Values: the slice stands in a box -/
theorem impl_KeepBlock.values_box (A : Option Addr) (n c : Nat) (w : World) : Calls Try.prog 62 #[.slice A n c] w fun e w' => ∃ Bx, e = .returned (.func (.func 97) #[] #[.pointer (some ⟨Bx, 0, none⟩)]) ∧ w'.heap[Bx]? = some (.cells #[.slice A n c] 23 (0, 0)) ∧ Below w.heap.size w w' :=
  (impl_KeepBlock.values_calls A n c w).mono fun e w' h => ⟨w.heap.size, h.1, by rw [h.2]; exact World.alloc_heap_new w _, by rw [h.2]; exact below_alloc (Below.refl _ _) _⟩
def impl_KeepBlock.hd (Y : List Int) : Int := Y.headD 0
def impl_KeepBlock.tail (k : Nat) (o : List Int) (m b : Int) : Option (List Int × Int × Bool) := if ((o ++ [b]).length : Int) > m then (slices_Clone_int_int.f ((o ++ [b]).drop 1)).bind fun c => some (c, impl_KeepBlock.hd (o ++ [b]), true) else some (o ++ [b], -1, true)
def impl_KeepBlock.g (k : Nat) (l : List Int) (m b : Int) : Option (List Int × Int × Bool) := (slices_Clone_int_int.f l).bind fun cl => (slices_Index_int_int.f k cl b).bind fun i => if cl.length ≤ 1048576 then (if i ≥ 0 then (slices_Delete_int_int.f cl i (wrap64 (i + 1))).bind fun dl => if dl.length ≤ 1048576 then impl_KeepBlock.tail k dl m b else none else impl_KeepBlock.tail k cl m b) else none
def impl_KeepBlock.f (k : Nat) (l : List Int) (m b : Int) : Option (List Int × Int × Bool) := if l.length ≤ 1048576 then (slices_Sort_int_int.f l).bind fun so => if (l.length : Int) > 50 then some ([], 0, false) else (slices_Compact_int_int.f so).bind fun co => if (co.length : Int) = (l.length : Int) then (impl_within.f m 1 50).bind fun g => if g = true then (if (l.length : Int) > m then some ([], 0, false) else impl_KeepBlock.g k l m b) else some ([], 0, false) else some ([], 0, false) else none
theorem impl_KeepBlock.mono : ∀ l m b k, LeO (impl_KeepBlock.f k l m b) (impl_KeepBlock.f (k + 1) l m b) := fun l m b k => LeO.ite (LeO.bind (LeO.refl _) (fun _ => LeO.ite (LeO.refl _) (LeO.bind (LeO.refl _) (fun _ => LeO.ite (LeO.bind (LeO.refl _) (fun _ => LeO.ite (LeO.ite (LeO.refl _) (LeO.bind (LeO.refl _) (fun _ => LeO.bind (slices_Index_int_int.mono _ _ _) (fun _ => LeO.ite (LeO.ite (LeO.bind (LeO.refl _) (fun _ => LeO.ite (LeO.refl _) (LeO.refl _))) (LeO.refl _)) (LeO.refl _))))) (LeO.refl _))) (LeO.refl _))))) (LeO.refl _)
set_option maxHeartbeats 8000000 in
set_option maxRecDepth 100000 in
theorem impl_KeepBlock.calls (k : Nat) (A0 : Option Addr) (c0 : Nat) (l0 : List Int) (a1 : Int) (a2 : Int) (r1 : List Int) (r2 : Int) (r3 : Bool) (w : World) (hr0 : Kd.C (Kd.int .i64) w A0 l0.length l0) (hc0 : l0.length ≤ c0) (h : impl_KeepBlock.f k l0 a1 a2 = some (r1, r2, r3)) :
    Calls Try.prog 32 #[.slice A0 l0.length c0, .int .i64 a1, .int .i64 a2] w fun e w' => ∃ v0_ : Value, e = .returned (.tuple #[v0_, .int .i64 r2, .bool r3]) ∧ Kd.R (Kd.int .i64) 3 w' w.heap.size (fun _ => True) v0_ r1 ∧ Below w.heap.size w w' := by
  unfold impl_KeepBlock.f at h
  by_cases hsz : l0.length ≤ 1048576
  · rw [if_pos hsz] at h
    have SZ := Aside0.mk hsz
    have HR := Aside0.mk hr0
    have HC := Aside0.mk hc0
    have HB := Aside0.mk (Below.refl w.heap.size w)
    clear hr0 hc0 hsz
    obtain ⟨so, hso, h⟩ := Option.bind_eq_some_iff.mp h
    have AS := Aside0.mk hso
    clear hso
    cases h50 : decide ((l0.length : Int) > 50) with
    | true =>
      rw [if_pos (of_decide_eq_true h50)] at h
      simp only [Option.some.injEq, Prod.mk.injEq] at h
      obtain ⟨rfl, rfl, rfl⟩ := h
      go_enter Try.func32, Try.ntmps32
      go_wp2_with (first | ((with_reducible refine gate_callee (f := 62) rfl ?_); refine goesL_ (some 14) rfl rfl Try.func62 (by kernel_rfl) rfl #[.slice A0 l0.length c0] rfl (by (try simp only [List.map_toArray, List.map_cons, List.map_nil]); first | done | rfl) ?_; (refine (impl_KeepBlock.values_box A0 l0.length c0 _).mono ?_); rintro e w5 ⟨Bx, rfl, hbx, hb⟩; refine ⟨_, rfl, ?_⟩; have BX := Aside0.mk hbx; clear hbx; have nHB := Aside0.mk (below_step (by with_reducible repeat (first | exact HB.out | apply below_alloc | apply pw_below_drewN | apply below_drew1)) hb); clear HB; have HB := nHB; clear nHB hb) | ((with_reducible refine gate_callee (f := 61) rfl ?_); refine goesL_ (some 15) rfl rfl Try.func61 (by kernel_rfl) rfl #[.func (.func 97) #[] #[.pointer (some ⟨Bx, 0, none⟩)]] rfl (by (try simp only [List.map_toArray, List.map_cons, List.map_nil]); first | done | rfl) ?_; (refine (impl_KeepBlock.sorted_calls A0 c0 Bx l0 so _ (by (with_reducible repeat (first | refine blk_drewN ?_ _ | refine blk_drew ?_)); exact BX.out) (Kd.C_below HR.out (by with_reducible repeat (first | exact HB.out | apply below_alloc | apply pw_below_drewN | apply below_drew1))) (by have := SZ.out; omega) AS.out).mono ?_); rintro e w6 ⟨v6, rfl, hv, hb⟩; refine ⟨_, rfl, ?_⟩; have HO := Aside0.mk (Kd.R_lower hv (below_size (by with_reducible repeat (first | exact HB.out | apply below_alloc | apply pw_below_drewN | apply below_drew1)))); clear hv BX; have nHB := Aside0.mk (below_step (by with_reducible repeat (first | exact HB.out | apply below_alloc | apply pw_below_drewN | apply below_drew1)) hb); clear HB; have HB := nHB; clear nHB hb))
      refine bodyPost_ret (results_tmp3 rfl _ _ _) rfl ?_
      exact ⟨.slice none 0 0, by first | rfl | (simp; done), Kd.R_nil _ _ _ _ _, (by with_reducible repeat (first | exact HB.out | apply below_alloc | apply pw_below_drewN | apply below_drew1))⟩
    | false =>
      rw [if_neg (of_decide_eq_false h50)] at h
      obtain ⟨co, hco, h⟩ := Option.bind_eq_some_iff.mp h
      have AC := Aside0.mk hco
      clear hco
      by_cases hcl : (co.length : Int) = (l0.length : Int)
      · rw [if_pos hcl] at h
        have zb := bne_eq_false_iff_eq.mpr hcl
        obtain ⟨gw, hgw, h⟩ := Option.bind_eq_some_iff.mp h
        have AW := Aside0.mk hgw
        clear hgw
        cases gw with
        | false =>
          rw [if_neg (by decide)] at h
          simp only [Option.some.injEq, Prod.mk.injEq] at h
          obtain ⟨rfl, rfl, rfl⟩ := h
          go_enter Try.func32, Try.ntmps32
          go_wp2_with (first | ((with_reducible refine gate_callee (f := 62) rfl ?_); refine goesL_ (some 14) rfl rfl Try.func62 (by kernel_rfl) rfl #[.slice A0 l0.length c0] rfl (by (try simp only [List.map_toArray, List.map_cons, List.map_nil]); first | done | rfl) ?_; (refine (impl_KeepBlock.values_box A0 l0.length c0 _).mono ?_); rintro e w5 ⟨Bx, rfl, hbx, hb⟩; refine ⟨_, rfl, ?_⟩; have BX := Aside0.mk hbx; clear hbx; have nHB := Aside0.mk (below_step (by with_reducible repeat (first | exact HB.out | apply below_alloc | apply pw_below_drewN | apply below_drew1)) hb); clear HB; have HB := nHB; clear nHB hb) | ((with_reducible refine gate_callee (f := 61) rfl ?_); refine goesL_ (some 15) rfl rfl Try.func61 (by kernel_rfl) rfl #[.func (.func 97) #[] #[.pointer (some ⟨Bx, 0, none⟩)]] rfl (by (try simp only [List.map_toArray, List.map_cons, List.map_nil]); first | done | rfl) ?_; (refine (impl_KeepBlock.sorted_calls A0 c0 Bx l0 so _ (by (with_reducible repeat (first | refine blk_drewN ?_ _ | refine blk_drew ?_)); exact BX.out) (Kd.C_below HR.out (by with_reducible repeat (first | exact HB.out | apply below_alloc | apply pw_below_drewN | apply below_drew1))) (by have := SZ.out; omega) AS.out).mono ?_); rintro e w6 ⟨v6, rfl, hv, hb⟩; refine ⟨_, rfl, ?_⟩; have HO := Aside0.mk (Kd.R_lower hv (below_size (by with_reducible repeat (first | exact HB.out | apply below_alloc | apply pw_below_drewN | apply below_drew1)))); clear hv BX; have nHB := Aside0.mk (below_step (by with_reducible repeat (first | exact HB.out | apply below_alloc | apply pw_below_drewN | apply below_drew1)) hb); clear HB; have HB := nHB; clear nHB hb) | (go_at_call 63; (with_reducible refine (slices_Compact_int_int.calls (fun _ => True) v6 so co w _ ?sideB ?side1 AC.out).mono ?_); (case sideB => exact (by with_reducible repeat (first | exact HB.out | apply below_alloc | apply pw_below_drewN | apply below_drew1))); (case side1 => exact (by (with_reducible repeat (first | apply Kd.R_drewN | apply Kd.R_drew)); exact HO.out)); rintro e w7 ⟨v7, rfl, hv, hb, hk⟩; obtain ⟨A7, c7, e7⟩ := Kd.R_slice hv; subst e7; clear HO HB hv hk; have HB := Aside0.mk hb; clear hb) | (go_at_call 64; (with_reducible refine (impl_within.calls a1 1 50 false _ AW.out).mono ?_); rintro e w8 ⟨rfl, hd⟩; have hb := Drawn0.below hd; clear hd; have nHB := Aside0.mk (below_step (by with_reducible repeat (first | exact HB.out | apply below_alloc | apply pw_below_drewN | apply below_drew1)) hb); clear HB; have HB := nHB; clear nHB hb))
          refine bodyPost_ret (results_tmp3 rfl _ _ _) rfl ?_
          exact ⟨.slice none 0 0, by first | rfl | (simp; done), Kd.R_nil _ _ _ _ _, (by with_reducible repeat (first | exact HB.out | apply below_alloc | apply pw_below_drewN | apply below_drew1))⟩
        | true =>
          rw [if_pos rfl] at h
          cases hm : decide ((l0.length : Int) > a1) with
          | true =>
            rw [if_pos (of_decide_eq_true hm)] at h
            simp only [Option.some.injEq, Prod.mk.injEq] at h
            obtain ⟨rfl, rfl, rfl⟩ := h
            go_enter Try.func32, Try.ntmps32
            go_wp2_with (first | ((with_reducible refine gate_callee (f := 62) rfl ?_); refine goesL_ (some 14) rfl rfl Try.func62 (by kernel_rfl) rfl #[.slice A0 l0.length c0] rfl (by (try simp only [List.map_toArray, List.map_cons, List.map_nil]); first | done | rfl) ?_; (refine (impl_KeepBlock.values_box A0 l0.length c0 _).mono ?_); rintro e w5 ⟨Bx, rfl, hbx, hb⟩; refine ⟨_, rfl, ?_⟩; have BX := Aside0.mk hbx; clear hbx; have nHB := Aside0.mk (below_step (by with_reducible repeat (first | exact HB.out | apply below_alloc | apply pw_below_drewN | apply below_drew1)) hb); clear HB; have HB := nHB; clear nHB hb) | ((with_reducible refine gate_callee (f := 61) rfl ?_); refine goesL_ (some 15) rfl rfl Try.func61 (by kernel_rfl) rfl #[.func (.func 97) #[] #[.pointer (some ⟨Bx, 0, none⟩)]] rfl (by (try simp only [List.map_toArray, List.map_cons, List.map_nil]); first | done | rfl) ?_; (refine (impl_KeepBlock.sorted_calls A0 c0 Bx l0 so _ (by (with_reducible repeat (first | refine blk_drewN ?_ _ | refine blk_drew ?_)); exact BX.out) (Kd.C_below HR.out (by with_reducible repeat (first | exact HB.out | apply below_alloc | apply pw_below_drewN | apply below_drew1))) (by have := SZ.out; omega) AS.out).mono ?_); rintro e w6 ⟨v6, rfl, hv, hb⟩; refine ⟨_, rfl, ?_⟩; have HO := Aside0.mk (Kd.R_lower hv (below_size (by with_reducible repeat (first | exact HB.out | apply below_alloc | apply pw_below_drewN | apply below_drew1)))); clear hv BX; have nHB := Aside0.mk (below_step (by with_reducible repeat (first | exact HB.out | apply below_alloc | apply pw_below_drewN | apply below_drew1)) hb); clear HB; have HB := nHB; clear nHB hb) | (go_at_call 63; (with_reducible refine (slices_Compact_int_int.calls (fun _ => True) v6 so co w _ ?sideB ?side1 AC.out).mono ?_); (case sideB => exact (by with_reducible repeat (first | exact HB.out | apply below_alloc | apply pw_below_drewN | apply below_drew1))); (case side1 => exact (by (with_reducible repeat (first | apply Kd.R_drewN | apply Kd.R_drew)); exact HO.out)); rintro e w7 ⟨v7, rfl, hv, hb, hk⟩; obtain ⟨A7, c7, e7⟩ := Kd.R_slice hv; subst e7; clear HO HB hv hk; have HB := Aside0.mk hb; clear hb) | (go_at_call 64; (with_reducible refine (impl_within.calls a1 1 50 true _ AW.out).mono ?_); rintro e w8 ⟨rfl, hd⟩; have hb := Drawn0.below hd; clear hd; have nHB := Aside0.mk (below_step (by with_reducible repeat (first | exact HB.out | apply below_alloc | apply pw_below_drewN | apply below_drew1)) hb); clear HB; have HB := nHB; clear nHB hb))
            refine bodyPost_ret (results_tmp3 rfl _ _ _) rfl ?_
            exact ⟨.slice none 0 0, by first | rfl | (simp; done), Kd.R_nil _ _ _ _ _, (by with_reducible repeat (first | exact HB.out | apply below_alloc | apply pw_below_drewN | apply below_drew1))⟩
          | false =>
            rw [if_neg (of_decide_eq_false hm)] at h
            unfold impl_KeepBlock.g at h
            obtain ⟨cl, hcl2, h⟩ := Option.bind_eq_some_iff.mp h
            obtain ⟨ix, hix, h⟩ := Option.bind_eq_some_iff.mp h
            have AK := Aside0.mk hcl2
            have AI := Aside0.mk hix
            clear hcl2 hix
            by_cases hln : cl.length ≤ 1048576
            · rw [if_pos hln] at h
              cases hi : decide (ix ≥ 0) with
              | true =>
                rw [if_pos (of_decide_eq_true hi)] at h
                clear hln
                obtain ⟨dl, hdl, h⟩ := Option.bind_eq_some_iff.mp h
                have AD := Aside0.mk hdl
                clear hdl
                by_cases hln : dl.length ≤ 1048576
                · rw [if_pos hln] at h
                  have LN := Aside0.mk hln
                  clear hln
                  unfold impl_KeepBlock.tail at h
                  obtain ⟨Y, hY⟩ : ∃ y : List Int, y = dl ++ [a2] := ⟨_, rfl⟩
                  rw [← hY] at h
                  have NY := Aside0.mk hY
                  clear hY
                  cases hgt : decide ((Y.length : Int) > a1) with
                  | false =>
                    rw [if_neg (of_decide_eq_false hgt)] at h
                    simp only [Option.some.injEq, Prod.mk.injEq] at h
                    obtain ⟨rfl, rfl, rfl⟩ := h
                    go_enter Try.func32, Try.ntmps32
                    go_wp2_with (first | ((with_reducible refine gate_callee (f := 62) rfl ?_); refine goesL_ (some 14) rfl rfl Try.func62 (by kernel_rfl) rfl #[.slice A0 l0.length c0] rfl (by (try simp only [List.map_toArray, List.map_cons, List.map_nil]); first | done | rfl) ?_; (refine (impl_KeepBlock.values_box A0 l0.length c0 _).mono ?_); rintro e w5 ⟨Bx, rfl, hbx, hb⟩; refine ⟨_, rfl, ?_⟩; have BX := Aside0.mk hbx; clear hbx; have nHB := Aside0.mk (below_step (by with_reducible repeat (first | exact HB.out | apply below_alloc | apply pw_below_drewN | apply below_drew1)) hb); clear HB; have HB := nHB; clear nHB hb) | ((with_reducible refine gate_callee (f := 61) rfl ?_); refine goesL_ (some 15) rfl rfl Try.func61 (by kernel_rfl) rfl #[.func (.func 97) #[] #[.pointer (some ⟨Bx, 0, none⟩)]] rfl (by (try simp only [List.map_toArray, List.map_cons, List.map_nil]); first | done | rfl) ?_; (refine (impl_KeepBlock.sorted_calls A0 c0 Bx l0 so _ (by (with_reducible repeat (first | refine blk_drewN ?_ _ | refine blk_drew ?_)); exact BX.out) (Kd.C_below HR.out (by with_reducible repeat (first | exact HB.out | apply below_alloc | apply pw_below_drewN | apply below_drew1))) (by have := SZ.out; omega) AS.out).mono ?_); rintro e w6 ⟨v6, rfl, hv, hb⟩; refine ⟨_, rfl, ?_⟩; have HO := Aside0.mk (Kd.R_lower hv (below_size (by with_reducible repeat (first | exact HB.out | apply below_alloc | apply pw_below_drewN | apply below_drew1)))); clear hv BX; have nHB := Aside0.mk (below_step (by with_reducible repeat (first | exact HB.out | apply below_alloc | apply pw_below_drewN | apply below_drew1)) hb); clear HB; have HB := nHB; clear nHB hb) | (go_at_call 63; (with_reducible refine (slices_Compact_int_int.calls (fun _ => True) v6 so co w _ ?sideB ?side1 AC.out).mono ?_); (case sideB => exact (by with_reducible repeat (first | exact HB.out | apply below_alloc | apply pw_below_drewN | apply below_drew1))); (case side1 => exact (by (with_reducible repeat (first | apply Kd.R_drewN | apply Kd.R_drew)); exact HO.out)); rintro e w7 ⟨v7, rfl, hv, hb, hk⟩; obtain ⟨A7, c7, e7⟩ := Kd.R_slice hv; subst e7; clear HO HB hv hk; have HB := Aside0.mk hb; clear hb) | (go_at_call 64; (with_reducible refine (impl_within.calls a1 1 50 true _ AW.out).mono ?_); rintro e w8 ⟨rfl, hd⟩; have hb := Drawn0.below hd; clear hd; have nHB := Aside0.mk (below_step (by with_reducible repeat (first | exact HB.out | apply below_alloc | apply pw_below_drewN | apply below_drew1)) hb); clear HB; have HB := nHB; clear nHB hb) | ((with_reducible refine gate_callee (f := 65) rfl ?_); refine goesL_ (some 39) rfl rfl Try.func65 (by kernel_rfl) rfl #[.slice A0 l0.length c0] rfl (by (try simp only [List.map_toArray, List.map_cons, List.map_nil]); first | done | rfl) ?_; (with_reducible refine (slices_Clone_int_int.calls A0 c0 l0 cl _ (Kd.C_below HR.out (by with_reducible repeat (first | exact HB.out | apply below_alloc | apply pw_below_drewN | apply below_drew1))) HC.out AK.out).mono ?_); rintro e w9 ⟨v9, rfl, hv, hb⟩; refine ⟨_, rfl, ?_⟩; have HO := Aside0.mk (Kd.R_lower hv (below_size (by with_reducible repeat (first | exact HB.out | apply below_alloc | apply pw_below_drewN | apply below_drew1)))); clear hv; obtain ⟨A9, c9, e9⟩ := Kd.R_slice HO.out; subst e9; have nHB := Aside0.mk (below_step (by with_reducible repeat (first | exact HB.out | apply below_alloc | apply pw_below_drewN | apply below_drew1)) hb); clear HB; have HB := nHB; clear nHB hb) | ((with_reducible refine gate_callee (f := 66) rfl ?_); refine goesL_ (some 42) rfl rfl Try.func66 (by kernel_rfl) rfl #[.slice A9 cl.length c9, .int .i64 a2] rfl (by (try simp only [List.map_toArray, List.map_cons, List.map_nil]); first | done | rfl) ?_; (with_reducible refine (slices_Index_int_int.calls k A9 c9 cl a2 ix _ (by (with_reducible repeat (first | refine Kd.C_drewN ?_ _ | refine Kd.C_drew ?_)); exact (Kd.R_reads' HO.out).2.2) (Kd.R_reads' HO.out).2.1 AI.out).mono ?_); rintro e w10 ⟨rfl, hd⟩; refine ⟨_, rfl, ?_⟩; have hb := (show Below _ _ w10 from by first | exact hd | exact Drawn0.below hd); clear hd; have nHO := Aside0.mk (Kd.R_below (by (with_reducible repeat (first | apply Kd.R_drewN | apply Kd.R_drew)); exact HO.out) hb); clear HO; have HO := nHO; clear nHO; have nHB := Aside0.mk (below_step (by with_reducible repeat (first | exact HB.out | apply below_alloc | apply pw_below_drewN | apply below_drew1)) hb); clear HB; have HB := nHB; clear nHB hb) | ((with_reducible refine gate_callee (f := 67) rfl ?_); refine goesL_ (some 49) rfl rfl Try.func67 (by kernel_rfl) rfl #[.slice A9 cl.length c9, .int .i64 ix, .int .i64 (wrap64 (ix + 1))] rfl (by (try simp only [List.map_toArray, List.map_cons, List.map_nil]); first | done | rfl) ?_; (with_reducible refine (slices_Delete_int_int.calls (fun _ => True) (.slice A9 cl.length c9) cl ix (wrap64 (ix + 1)) dl w _ ?sideB ?side1 AD.out).mono ?_); (case sideB => exact (by with_reducible repeat (first | exact HB.out | apply below_alloc | apply pw_below_drewN | apply below_drew1))); (case side1 => exact (by (with_reducible repeat (first | apply Kd.R_drewN | apply Kd.R_drew)); exact HO.out)); rintro e w11 ⟨v11, rfl, hv, hb, hk⟩; refine ⟨_, rfl, ?_⟩; clear HO HB hk; have HO := Aside0.mk (Kd.R_mono hv (fun _ _ => trivial)); have HB := Aside0.mk hb; clear hb hv; obtain ⟨A9, c9, e9⟩ := Kd.R_slice HO.out; subst e9) | ((with_reducible refine gate_builtin (b := .append) (xs := #[.tmp 50, .tmp 52]) rfl ?_); at_builtin; refine Kd.R_append (Kd.int .i64) (w0 := w) w.heap.size rfl (.tmp 50) (.tmp 52) 23 3 (.int .i64 0) 8 rfl Try.underlying23 info3 rfl (by decide) (by omega) (.slice A9 dl.length c9) dl a2 [.int .i64 a2] (fun _ => True) (fun _ => False) rfl rfl ?aP (fun _ hk => hk.elim) ?aF ?aO ?aB ?aS ?aL ?_; (case aP => exact rfl); (case aB => exact (by with_reducible repeat (first | exact HB.out | apply below_alloc | apply pw_below_drewN | apply below_drew1))); (case aF => exact (fun _ _ => trivial)); (case aO => exact (by (with_reducible repeat (first | apply Kd.R_drewN | apply Kd.R_drew)); exact HO.out)); (case aS => exact below_size (by with_reducible repeat (first | exact HB.out | apply below_alloc | apply pw_below_drewN | apply below_drew1))); (case aL => have := LN.out; omega); intro v12 w12 ho hb hg hat; rw [← NY.out] at ho; clear HO HB hg hat; have HO := Aside0.mk ho; have HB := Aside0.mk hb; clear ho hb; obtain ⟨A12, c12, e12⟩ := Kd.R_slice HO.out; subst e12))
                    refine bodyPost_ret (results_tmp3 rfl _ _ _) rfl ?_
                    exact ⟨.slice A12 Y.length c12, by first | rfl | (simp; done), by (with_reducible repeat (first | apply Kd.R_drewN | apply Kd.R_drew)); exact HO.out, (by with_reducible repeat (first | exact HB.out | apply below_alloc | apply pw_below_drewN | apply below_drew1))⟩
                  | true =>
                    rw [if_pos (of_decide_eq_true hgt)] at h
                    obtain ⟨c2, hc2, h⟩ := Option.bind_eq_some_iff.mp h
                    simp only [Option.some.injEq, Prod.mk.injEq] at h
                    obtain ⟨rfl, rfl, rfl⟩ := h
                    have AZ := Aside0.mk hc2
                    clear hc2
                    go_enter Try.func32, Try.ntmps32
                    go_wp2_with (first | ((with_reducible refine gate_callee (f := 62) rfl ?_); refine goesL_ (some 14) rfl rfl Try.func62 (by kernel_rfl) rfl #[.slice A0 l0.length c0] rfl (by (try simp only [List.map_toArray, List.map_cons, List.map_nil]); first | done | rfl) ?_; (refine (impl_KeepBlock.values_box A0 l0.length c0 _).mono ?_); rintro e w5 ⟨Bx, rfl, hbx, hb⟩; refine ⟨_, rfl, ?_⟩; have BX := Aside0.mk hbx; clear hbx; have nHB := Aside0.mk (below_step (by with_reducible repeat (first | exact HB.out | apply below_alloc | apply pw_below_drewN | apply below_drew1)) hb); clear HB; have HB := nHB; clear nHB hb) | ((with_reducible refine gate_callee (f := 61) rfl ?_); refine goesL_ (some 15) rfl rfl Try.func61 (by kernel_rfl) rfl #[.func (.func 97) #[] #[.pointer (some ⟨Bx, 0, none⟩)]] rfl (by (try simp only [List.map_toArray, List.map_cons, List.map_nil]); first | done | rfl) ?_; (refine (impl_KeepBlock.sorted_calls A0 c0 Bx l0 so _ (by (with_reducible repeat (first | refine blk_drewN ?_ _ | refine blk_drew ?_)); exact BX.out) (Kd.C_below HR.out (by with_reducible repeat (first | exact HB.out | apply below_alloc | apply pw_below_drewN | apply below_drew1))) (by have := SZ.out; omega) AS.out).mono ?_); rintro e w6 ⟨v6, rfl, hv, hb⟩; refine ⟨_, rfl, ?_⟩; have HO := Aside0.mk (Kd.R_lower hv (below_size (by with_reducible repeat (first | exact HB.out | apply below_alloc | apply pw_below_drewN | apply below_drew1)))); clear hv BX; have nHB := Aside0.mk (below_step (by with_reducible repeat (first | exact HB.out | apply below_alloc | apply pw_below_drewN | apply below_drew1)) hb); clear HB; have HB := nHB; clear nHB hb) | (go_at_call 63; (with_reducible refine (slices_Compact_int_int.calls (fun _ => True) v6 so co w _ ?sideB ?side1 AC.out).mono ?_); (case sideB => exact (by with_reducible repeat (first | exact HB.out | apply below_alloc | apply pw_below_drewN | apply below_drew1))); (case side1 => exact (by (with_reducible repeat (first | apply Kd.R_drewN | apply Kd.R_drew)); exact HO.out)); rintro e w7 ⟨v7, rfl, hv, hb, hk⟩; obtain ⟨A7, c7, e7⟩ := Kd.R_slice hv; subst e7; clear HO HB hv hk; have HB := Aside0.mk hb; clear hb) | (go_at_call 64; (with_reducible refine (impl_within.calls a1 1 50 true _ AW.out).mono ?_); rintro e w8 ⟨rfl, hd⟩; have hb := Drawn0.below hd; clear hd; have nHB := Aside0.mk (below_step (by with_reducible repeat (first | exact HB.out | apply below_alloc | apply pw_below_drewN | apply below_drew1)) hb); clear HB; have HB := nHB; clear nHB hb) | ((with_reducible refine gate_callee (f := 65) rfl ?_); refine goesL_ (some 39) rfl rfl Try.func65 (by kernel_rfl) rfl #[.slice A0 l0.length c0] rfl (by (try simp only [List.map_toArray, List.map_cons, List.map_nil]); first | done | rfl) ?_; (with_reducible refine (slices_Clone_int_int.calls A0 c0 l0 cl _ (Kd.C_below HR.out (by with_reducible repeat (first | exact HB.out | apply below_alloc | apply pw_below_drewN | apply below_drew1))) HC.out AK.out).mono ?_); rintro e w9 ⟨v9, rfl, hv, hb⟩; refine ⟨_, rfl, ?_⟩; have HO := Aside0.mk (Kd.R_lower hv (below_size (by with_reducible repeat (first | exact HB.out | apply below_alloc | apply pw_below_drewN | apply below_drew1)))); clear hv; obtain ⟨A9, c9, e9⟩ := Kd.R_slice HO.out; subst e9; have nHB := Aside0.mk (below_step (by with_reducible repeat (first | exact HB.out | apply below_alloc | apply pw_below_drewN | apply below_drew1)) hb); clear HB; have HB := nHB; clear nHB hb) | ((with_reducible refine gate_callee (f := 66) rfl ?_); refine goesL_ (some 42) rfl rfl Try.func66 (by kernel_rfl) rfl #[.slice A9 cl.length c9, .int .i64 a2] rfl (by (try simp only [List.map_toArray, List.map_cons, List.map_nil]); first | done | rfl) ?_; (with_reducible refine (slices_Index_int_int.calls k A9 c9 cl a2 ix _ (by (with_reducible repeat (first | refine Kd.C_drewN ?_ _ | refine Kd.C_drew ?_)); exact (Kd.R_reads' HO.out).2.2) (Kd.R_reads' HO.out).2.1 AI.out).mono ?_); rintro e w10 ⟨rfl, hd⟩; refine ⟨_, rfl, ?_⟩; have hb := (show Below _ _ w10 from by first | exact hd | exact Drawn0.below hd); clear hd; have nHO := Aside0.mk (Kd.R_below (by (with_reducible repeat (first | apply Kd.R_drewN | apply Kd.R_drew)); exact HO.out) hb); clear HO; have HO := nHO; clear nHO; have nHB := Aside0.mk (below_step (by with_reducible repeat (first | exact HB.out | apply below_alloc | apply pw_below_drewN | apply below_drew1)) hb); clear HB; have HB := nHB; clear nHB hb) | ((with_reducible refine gate_callee (f := 67) rfl ?_); refine goesL_ (some 49) rfl rfl Try.func67 (by kernel_rfl) rfl #[.slice A9 cl.length c9, .int .i64 ix, .int .i64 (wrap64 (ix + 1))] rfl (by (try simp only [List.map_toArray, List.map_cons, List.map_nil]); first | done | rfl) ?_; (with_reducible refine (slices_Delete_int_int.calls (fun _ => True) (.slice A9 cl.length c9) cl ix (wrap64 (ix + 1)) dl w _ ?sideB ?side1 AD.out).mono ?_); (case sideB => exact (by with_reducible repeat (first | exact HB.out | apply below_alloc | apply pw_below_drewN | apply below_drew1))); (case side1 => exact (by (with_reducible repeat (first | apply Kd.R_drewN | apply Kd.R_drew)); exact HO.out)); rintro e w11 ⟨v11, rfl, hv, hb, hk⟩; refine ⟨_, rfl, ?_⟩; clear HO HB hk; have HO := Aside0.mk (Kd.R_mono hv (fun _ _ => trivial)); have HB := Aside0.mk hb; clear hb hv; obtain ⟨A9, c9, e9⟩ := Kd.R_slice HO.out; subst e9) | ((with_reducible refine gate_builtin (b := .append) (xs := #[.tmp 50, .tmp 52]) rfl ?_); at_builtin; refine Kd.R_append (Kd.int .i64) (w0 := w) w.heap.size rfl (.tmp 50) (.tmp 52) 23 3 (.int .i64 0) 8 rfl Try.underlying23 info3 rfl (by decide) (by omega) (.slice A9 dl.length c9) dl a2 [.int .i64 a2] (fun _ => True) (fun _ => False) rfl rfl ?aP (fun _ hk => hk.elim) ?aF ?aO ?aB ?aS ?aL ?_; (case aP => exact rfl); (case aB => exact (by with_reducible repeat (first | exact HB.out | apply below_alloc | apply pw_below_drewN | apply below_drew1))); (case aF => exact (fun _ _ => trivial)); (case aO => exact (by (with_reducible repeat (first | apply Kd.R_drewN | apply Kd.R_drew)); exact HO.out)); (case aS => exact below_size (by with_reducible repeat (first | exact HB.out | apply below_alloc | apply pw_below_drewN | apply below_drew1))); (case aL => have := LN.out; omega); intro v12 w12 ho hb hg hat; rw [← NY.out] at ho; clear HO HB hg hat; have HO := Aside0.mk ho; have HB := Aside0.mk hb; clear ho hb; obtain ⟨A12, c12, e12⟩ := Kd.R_slice HO.out; subst e12))
                    have hYl : Y.length = dl.length + 1 := by rw [NY.out]; simp
                    obtain ⟨gy, cy, ey, hgb, hgl, cells, hcells⟩ := Kd.R_form HO.out (by omega)
                    injection ey with ea en ec
                    subst ea
                    subst ec
                    clear en hcells
                    have HO6 := Aside0.mk (Kd.R_drew HO.out)
                    have HB6 := Aside0.mk (below_drew1 HB.out)
                    obtain ⟨ad, e0, hx⟩ := Kd.at_int (Kd.R_reads' HO6.out).2.2 0 (by omega) (by omega)
                    cases e0
                    have hx0 : w12.drew.cell? ⟨gy, 0, none⟩ = some (.int .i64 (rd Y 0)) := hx
                    have hrd : rd Y 0 = impl_KeepBlock.hd Y := by
                      cases Y with
                      | nil => simp at hYl
                      | cons y t => rfl
                    rw [hrd] at hx0
                    have hlen : Y.length - 1 = (Y.drop 1).length := by rw [List.length_drop]
                    have hcap := (Kd.R_reads' HO6.out).2.1
                    have CD := Aside0.mk (Kd.C_drop (m := 1) (Kd.R_reads' HO6.out).2.2 (by omega) hcap)
                    have hcp : Y.length - 1 ≤ c12 - 1 := by omega
                    have hc1 : (1 : Int) ≤ (Y.length : Int) := by omega
                    have hy0 : (0 : Int) < (Y.length : Int) := by omega
                    have hy0n : 0 < Y.length := by omega
                    have hc1n : 1 ≤ Y.length := by omega
                    have HLEN := Aside0.mk hlen
                    clear hx hrd hYl hlen
                    refine start_ (n := 8) (S := fun w' => w'.cell? ⟨gy, 0, none⟩ = some (.int .i64 (impl_KeepBlock.hd Y))) (ds := []) #[false, false, false, false, false, false, false, false] (by kernel_rfl) rfl rfl hx0 (fun hHeld => ?_)
                    generalize hw6 : w12.drew = w13 at HO6 HB6 CD hx0 hHeld ⊢
                    clear hw6 HO HB
                    refine pure_ (i := 0) (N := some 58) (v := ?_) (a' := ?_) #[true, false, false, false, false, false, false, false] rfl rfl (by kernel_rfl) (fun _ _ _ h => h) (Or.inl ⟨by rfl, ?_⟩) ?_ ?_
                    rotate_left
                    · intro w'
                      go_simp
                      with_reducible rfl
                    rotate_left
                    · simp only [Act.put, List.setIfInBounds_toArray, List.set_cons_zero, List.set_cons_succ, i64_w, i32_w]
                      rfl
                    refine pure_ (i := 1) (N := some 59) (v := ?_) (a' := ?_) #[true, true, false, false, false, false, false, false] rfl rfl (by kernel_rfl) (fun _ _ _ h => h) (Or.inl ⟨by rfl, ?_⟩) ?_ ?_
                    rotate_left
                    · intro w'
                      go_simp
                      with_reducible rfl
                    rotate_left
                    · simp only [Act.put, List.setIfInBounds_toArray, List.set_cons_zero, List.set_cons_succ, i64_w, i32_w]
                      rfl
                    refine take_ (i := 2) (N := some 60) (v := ?_) (a' := ?_) #[true, true, true, false, false, false, false, false] rfl rfl (by kernel_rfl) (fun _ _ _ h => h) (Or.inl ⟨by rfl, ?_⟩) hHeld ?_ ?_
                    rotate_left
                    · rintro w' s0
                      go_simp
                      with_reducible rfl
                    rotate_left
                    · simp only [Act.put, List.setIfInBounds_toArray, List.set_cons_zero, List.set_cons_succ, i64_w, i32_w]
                      rfl
                    refine pure_ (i := 3) (N := some 61) (v := ?_) (a' := ?_) #[true, true, true, true, false, false, false, false] rfl rfl (by kernel_rfl) (fun _ _ _ h => h) (Or.inl ⟨by rfl, ?_⟩) ?_ ?_
                    rotate_left
                    · intro w'
                      go_simp
                      with_reducible rfl
                    rotate_left
                    · simp only [Act.put, List.setIfInBounds_toArray, List.set_cons_zero, List.set_cons_succ, i64_w, i32_w]
                      rfl
                    refine pure_ (i := 4) (N := some 62) (v := ?_) (a' := ?_) #[true, true, true, true, true, false, false, false] rfl rfl (by kernel_rfl) (fun _ _ _ h => h) (Or.inl ⟨by rfl, ?_⟩) ?_ ?_
                    rotate_left
                    · intro w'
                      go_simp
                      with_reducible rfl
                    rotate_left
                    · simp only [Act.put, List.setIfInBounds_toArray, List.set_cons_zero, List.set_cons_succ, i64_w, i32_w]
                      rfl
                    refine one_ (i := 5) (N := some 63) #[true, true, true, true, true, true, false, false] rfl rfl (by kernel_rfl) (by decide) (fun K hK => ?_)
                    refine goes_ Try.func65 (by kernel_rfl) rfl #[.slice (if c12 = 1 then (some ⟨gy, 0, none⟩ : Option Addr) else some ⟨gy, 1, none⟩) (Y.drop 1).length (c12 - 1)] (by rfl) rfl rfl (by (try simp only [List.map_toArray, List.map_cons, List.map_nil]); first | done | rfl | (rw [← HLEN.out]; rfl)) ?_
                    (refine (slices_Clone_int_int.calls _ (c12 - 1) (Y.drop 1) c2 _ CD.out (by rw [← HLEN.out]; exact hcp) AZ.out).mono ?_)
                    rintro e w14 ⟨v14, rfl, hv, hb⟩
                    refine ⟨_, rfl, ?_⟩
                    have HO := Aside0.mk (Kd.R_lower hv (below_size HB6.out))
                    have HB := Aside0.mk (below_step HB6.out hb)
                    have hx5 : w14.cell? ⟨gy, 0, none⟩ = some (.int .i64 (impl_KeepBlock.hd Y)) := (hb.cell (p := ⟨gy, 0, none⟩) (impl_KeepBlock.cell_lt hx0)).trans hx0
                    clear hv hb
                    refine hK.out _ _ hx5 (fun hHeld => ?_)
                    clear hK K
                    refine norm_ (a' := ?_) ?_ ?_
                    rotate_left
                    · show Act.put _ (some 63) _ = _
                      simp only [Act.put, List.setIfInBounds_toArray, List.set_cons_zero, List.set_cons_succ, i64_w, i32_w]
                      rfl
                    refine pure_ (i := 6) (N := some 11) (v := ?_) (a' := ?_) #[true, true, true, true, true, true, true, false] rfl rfl (by kernel_rfl) (fun _ _ _ h => h) (Or.inl ⟨by rfl, ?_⟩) ?_ ?_
                    rotate_left
                    · intro w'
                      go_simp
                      with_reducible rfl
                    rotate_left
                    · simp only [Act.put, List.setIfInBounds_toArray, List.set_cons_zero, List.set_cons_succ, i64_w, i32_w]
                      rfl
                    refine pure_ (i := 7) (N := some 10) (v := ?_) (a' := ?_) #[true, true, true, true, true, true, true, true] rfl rfl (by kernel_rfl) (fun _ _ _ h => h) (Or.inl ⟨by rfl, ?_⟩) ?_ ?_
                    rotate_left
                    · intro w'
                      go_simp
                      with_reducible rfl
                    rotate_left
                    · simp only [Act.put, List.setIfInBounds_toArray, List.set_cons_zero, List.set_cons_succ, i64_w, i32_w]
                      rfl
                    refine done_ (by kernel_rfl) ?_
                    clear hHeld hx5 hx0
                    generalize (if c12 = 1 then (some ⟨gy, 0, none⟩ : Option Addr) else some ⟨gy, 1, none⟩) = AX
                    go_wp2
                    refine bodyPost_ret (results_tmp3 rfl _ _ _) rfl ?_
                    exact ⟨v14, by first | rfl | (simp; done), by (with_reducible repeat (first | apply Kd.R_drewN | apply Kd.R_drew)); exact HO.out, (by with_reducible repeat (first | exact HB.out | apply below_alloc | apply pw_below_drewN | apply below_drew1))⟩
                · rw [if_neg hln] at h; cases h
              | false =>
                rw [if_neg (of_decide_eq_false hi)] at h
                have LN := Aside0.mk hln
                clear hln
                unfold impl_KeepBlock.tail at h
                obtain ⟨Y, hY⟩ : ∃ y : List Int, y = cl ++ [a2] := ⟨_, rfl⟩
                rw [← hY] at h
                have NY := Aside0.mk hY
                clear hY
                cases hgt : decide ((Y.length : Int) > a1) with
                | false =>
                  rw [if_neg (of_decide_eq_false hgt)] at h
                  simp only [Option.some.injEq, Prod.mk.injEq] at h
                  obtain ⟨rfl, rfl, rfl⟩ := h
                  go_enter Try.func32, Try.ntmps32
                  go_wp2_with (first | ((with_reducible refine gate_callee (f := 62) rfl ?_); refine goesL_ (some 14) rfl rfl Try.func62 (by kernel_rfl) rfl #[.slice A0 l0.length c0] rfl (by (try simp only [List.map_toArray, List.map_cons, List.map_nil]); first | done | rfl) ?_; (refine (impl_KeepBlock.values_box A0 l0.length c0 _).mono ?_); rintro e w5 ⟨Bx, rfl, hbx, hb⟩; refine ⟨_, rfl, ?_⟩; have BX := Aside0.mk hbx; clear hbx; have nHB := Aside0.mk (below_step (by with_reducible repeat (first | exact HB.out | apply below_alloc | apply pw_below_drewN | apply below_drew1)) hb); clear HB; have HB := nHB; clear nHB hb) | ((with_reducible refine gate_callee (f := 61) rfl ?_); refine goesL_ (some 15) rfl rfl Try.func61 (by kernel_rfl) rfl #[.func (.func 97) #[] #[.pointer (some ⟨Bx, 0, none⟩)]] rfl (by (try simp only [List.map_toArray, List.map_cons, List.map_nil]); first | done | rfl) ?_; (refine (impl_KeepBlock.sorted_calls A0 c0 Bx l0 so _ (by (with_reducible repeat (first | refine blk_drewN ?_ _ | refine blk_drew ?_)); exact BX.out) (Kd.C_below HR.out (by with_reducible repeat (first | exact HB.out | apply below_alloc | apply pw_below_drewN | apply below_drew1))) (by have := SZ.out; omega) AS.out).mono ?_); rintro e w6 ⟨v6, rfl, hv, hb⟩; refine ⟨_, rfl, ?_⟩; have HO := Aside0.mk (Kd.R_lower hv (below_size (by with_reducible repeat (first | exact HB.out | apply below_alloc | apply pw_below_drewN | apply below_drew1)))); clear hv BX; have nHB := Aside0.mk (below_step (by with_reducible repeat (first | exact HB.out | apply below_alloc | apply pw_below_drewN | apply below_drew1)) hb); clear HB; have HB := nHB; clear nHB hb) | (go_at_call 63; (with_reducible refine (slices_Compact_int_int.calls (fun _ => True) v6 so co w _ ?sideB ?side1 AC.out).mono ?_); (case sideB => exact (by with_reducible repeat (first | exact HB.out | apply below_alloc | apply pw_below_drewN | apply below_drew1))); (case side1 => exact (by (with_reducible repeat (first | apply Kd.R_drewN | apply Kd.R_drew)); exact HO.out)); rintro e w7 ⟨v7, rfl, hv, hb, hk⟩; obtain ⟨A7, c7, e7⟩ := Kd.R_slice hv; subst e7; clear HO HB hv hk; have HB := Aside0.mk hb; clear hb) | (go_at_call 64; (with_reducible refine (impl_within.calls a1 1 50 true _ AW.out).mono ?_); rintro e w8 ⟨rfl, hd⟩; have hb := Drawn0.below hd; clear hd; have nHB := Aside0.mk (below_step (by with_reducible repeat (first | exact HB.out | apply below_alloc | apply pw_below_drewN | apply below_drew1)) hb); clear HB; have HB := nHB; clear nHB hb) | ((with_reducible refine gate_callee (f := 65) rfl ?_); refine goesL_ (some 39) rfl rfl Try.func65 (by kernel_rfl) rfl #[.slice A0 l0.length c0] rfl (by (try simp only [List.map_toArray, List.map_cons, List.map_nil]); first | done | rfl) ?_; (with_reducible refine (slices_Clone_int_int.calls A0 c0 l0 cl _ (Kd.C_below HR.out (by with_reducible repeat (first | exact HB.out | apply below_alloc | apply pw_below_drewN | apply below_drew1))) HC.out AK.out).mono ?_); rintro e w9 ⟨v9, rfl, hv, hb⟩; refine ⟨_, rfl, ?_⟩; have HO := Aside0.mk (Kd.R_lower hv (below_size (by with_reducible repeat (first | exact HB.out | apply below_alloc | apply pw_below_drewN | apply below_drew1)))); clear hv; obtain ⟨A9, c9, e9⟩ := Kd.R_slice HO.out; subst e9; have nHB := Aside0.mk (below_step (by with_reducible repeat (first | exact HB.out | apply below_alloc | apply pw_below_drewN | apply below_drew1)) hb); clear HB; have HB := nHB; clear nHB hb) | ((with_reducible refine gate_callee (f := 66) rfl ?_); refine goesL_ (some 42) rfl rfl Try.func66 (by kernel_rfl) rfl #[.slice A9 cl.length c9, .int .i64 a2] rfl (by (try simp only [List.map_toArray, List.map_cons, List.map_nil]); first | done | rfl) ?_; (with_reducible refine (slices_Index_int_int.calls k A9 c9 cl a2 ix _ (by (with_reducible repeat (first | refine Kd.C_drewN ?_ _ | refine Kd.C_drew ?_)); exact (Kd.R_reads' HO.out).2.2) (Kd.R_reads' HO.out).2.1 AI.out).mono ?_); rintro e w10 ⟨rfl, hd⟩; refine ⟨_, rfl, ?_⟩; have hb := (show Below _ _ w10 from by first | exact hd | exact Drawn0.below hd); clear hd; have nHO := Aside0.mk (Kd.R_below (by (with_reducible repeat (first | apply Kd.R_drewN | apply Kd.R_drew)); exact HO.out) hb); clear HO; have HO := nHO; clear nHO; have nHB := Aside0.mk (below_step (by with_reducible repeat (first | exact HB.out | apply below_alloc | apply pw_below_drewN | apply below_drew1)) hb); clear HB; have HB := nHB; clear nHB hb) | ((with_reducible refine gate_builtin (b := .append) (xs := #[.tmp 50, .tmp 52]) rfl ?_); at_builtin; refine Kd.R_append (Kd.int .i64) (w0 := w) w.heap.size rfl (.tmp 50) (.tmp 52) 23 3 (.int .i64 0) 8 rfl Try.underlying23 info3 rfl (by decide) (by omega) (.slice A9 cl.length c9) cl a2 [.int .i64 a2] (fun _ => True) (fun _ => False) rfl rfl ?aP (fun _ hk => hk.elim) ?aF ?aO ?aB ?aS ?aL ?_; (case aP => exact rfl); (case aB => exact (by with_reducible repeat (first | exact HB.out | apply below_alloc | apply pw_below_drewN | apply below_drew1))); (case aF => exact (fun _ _ => trivial)); (case aO => exact (by (with_reducible repeat (first | apply Kd.R_drewN | apply Kd.R_drew)); exact HO.out)); (case aS => exact below_size (by with_reducible repeat (first | exact HB.out | apply below_alloc | apply pw_below_drewN | apply below_drew1))); (case aL => have := LN.out; omega); intro v12 w12 ho hb hg hat; rw [← NY.out] at ho; clear HO HB hg hat; have HO := Aside0.mk ho; have HB := Aside0.mk hb; clear ho hb; obtain ⟨A12, c12, e12⟩ := Kd.R_slice HO.out; subst e12))
                  refine bodyPost_ret (results_tmp3 rfl _ _ _) rfl ?_
                  exact ⟨.slice A12 Y.length c12, by first | rfl | (simp; done), by (with_reducible repeat (first | apply Kd.R_drewN | apply Kd.R_drew)); exact HO.out, (by with_reducible repeat (first | exact HB.out | apply below_alloc | apply pw_below_drewN | apply below_drew1))⟩
                | true =>
                  rw [if_pos (of_decide_eq_true hgt)] at h
                  obtain ⟨c2, hc2, h⟩ := Option.bind_eq_some_iff.mp h
                  simp only [Option.some.injEq, Prod.mk.injEq] at h
                  obtain ⟨rfl, rfl, rfl⟩ := h
                  have AZ := Aside0.mk hc2
                  clear hc2
                  go_enter Try.func32, Try.ntmps32
                  go_wp2_with (first | ((with_reducible refine gate_callee (f := 62) rfl ?_); refine goesL_ (some 14) rfl rfl Try.func62 (by kernel_rfl) rfl #[.slice A0 l0.length c0] rfl (by (try simp only [List.map_toArray, List.map_cons, List.map_nil]); first | done | rfl) ?_; (refine (impl_KeepBlock.values_box A0 l0.length c0 _).mono ?_); rintro e w5 ⟨Bx, rfl, hbx, hb⟩; refine ⟨_, rfl, ?_⟩; have BX := Aside0.mk hbx; clear hbx; have nHB := Aside0.mk (below_step (by with_reducible repeat (first | exact HB.out | apply below_alloc | apply pw_below_drewN | apply below_drew1)) hb); clear HB; have HB := nHB; clear nHB hb) | ((with_reducible refine gate_callee (f := 61) rfl ?_); refine goesL_ (some 15) rfl rfl Try.func61 (by kernel_rfl) rfl #[.func (.func 97) #[] #[.pointer (some ⟨Bx, 0, none⟩)]] rfl (by (try simp only [List.map_toArray, List.map_cons, List.map_nil]); first | done | rfl) ?_; (refine (impl_KeepBlock.sorted_calls A0 c0 Bx l0 so _ (by (with_reducible repeat (first | refine blk_drewN ?_ _ | refine blk_drew ?_)); exact BX.out) (Kd.C_below HR.out (by with_reducible repeat (first | exact HB.out | apply below_alloc | apply pw_below_drewN | apply below_drew1))) (by have := SZ.out; omega) AS.out).mono ?_); rintro e w6 ⟨v6, rfl, hv, hb⟩; refine ⟨_, rfl, ?_⟩; have HO := Aside0.mk (Kd.R_lower hv (below_size (by with_reducible repeat (first | exact HB.out | apply below_alloc | apply pw_below_drewN | apply below_drew1)))); clear hv BX; have nHB := Aside0.mk (below_step (by with_reducible repeat (first | exact HB.out | apply below_alloc | apply pw_below_drewN | apply below_drew1)) hb); clear HB; have HB := nHB; clear nHB hb) | (go_at_call 63; (with_reducible refine (slices_Compact_int_int.calls (fun _ => True) v6 so co w _ ?sideB ?side1 AC.out).mono ?_); (case sideB => exact (by with_reducible repeat (first | exact HB.out | apply below_alloc | apply pw_below_drewN | apply below_drew1))); (case side1 => exact (by (with_reducible repeat (first | apply Kd.R_drewN | apply Kd.R_drew)); exact HO.out)); rintro e w7 ⟨v7, rfl, hv, hb, hk⟩; obtain ⟨A7, c7, e7⟩ := Kd.R_slice hv; subst e7; clear HO HB hv hk; have HB := Aside0.mk hb; clear hb) | (go_at_call 64; (with_reducible refine (impl_within.calls a1 1 50 true _ AW.out).mono ?_); rintro e w8 ⟨rfl, hd⟩; have hb := Drawn0.below hd; clear hd; have nHB := Aside0.mk (below_step (by with_reducible repeat (first | exact HB.out | apply below_alloc | apply pw_below_drewN | apply below_drew1)) hb); clear HB; have HB := nHB; clear nHB hb) | ((with_reducible refine gate_callee (f := 65) rfl ?_); refine goesL_ (some 39) rfl rfl Try.func65 (by kernel_rfl) rfl #[.slice A0 l0.length c0] rfl (by (try simp only [List.map_toArray, List.map_cons, List.map_nil]); first | done | rfl) ?_; (with_reducible refine (slices_Clone_int_int.calls A0 c0 l0 cl _ (Kd.C_below HR.out (by with_reducible repeat (first | exact HB.out | apply below_alloc | apply pw_below_drewN | apply below_drew1))) HC.out AK.out).mono ?_); rintro e w9 ⟨v9, rfl, hv, hb⟩; refine ⟨_, rfl, ?_⟩; have HO := Aside0.mk (Kd.R_lower hv (below_size (by with_reducible repeat (first | exact HB.out | apply below_alloc | apply pw_below_drewN | apply below_drew1)))); clear hv; obtain ⟨A9, c9, e9⟩ := Kd.R_slice HO.out; subst e9; have nHB := Aside0.mk (below_step (by with_reducible repeat (first | exact HB.out | apply below_alloc | apply pw_below_drewN | apply below_drew1)) hb); clear HB; have HB := nHB; clear nHB hb) | ((with_reducible refine gate_callee (f := 66) rfl ?_); refine goesL_ (some 42) rfl rfl Try.func66 (by kernel_rfl) rfl #[.slice A9 cl.length c9, .int .i64 a2] rfl (by (try simp only [List.map_toArray, List.map_cons, List.map_nil]); first | done | rfl) ?_; (with_reducible refine (slices_Index_int_int.calls k A9 c9 cl a2 ix _ (by (with_reducible repeat (first | refine Kd.C_drewN ?_ _ | refine Kd.C_drew ?_)); exact (Kd.R_reads' HO.out).2.2) (Kd.R_reads' HO.out).2.1 AI.out).mono ?_); rintro e w10 ⟨rfl, hd⟩; refine ⟨_, rfl, ?_⟩; have hb := (show Below _ _ w10 from by first | exact hd | exact Drawn0.below hd); clear hd; have nHO := Aside0.mk (Kd.R_below (by (with_reducible repeat (first | apply Kd.R_drewN | apply Kd.R_drew)); exact HO.out) hb); clear HO; have HO := nHO; clear nHO; have nHB := Aside0.mk (below_step (by with_reducible repeat (first | exact HB.out | apply below_alloc | apply pw_below_drewN | apply below_drew1)) hb); clear HB; have HB := nHB; clear nHB hb) | ((with_reducible refine gate_builtin (b := .append) (xs := #[.tmp 50, .tmp 52]) rfl ?_); at_builtin; refine Kd.R_append (Kd.int .i64) (w0 := w) w.heap.size rfl (.tmp 50) (.tmp 52) 23 3 (.int .i64 0) 8 rfl Try.underlying23 info3 rfl (by decide) (by omega) (.slice A9 cl.length c9) cl a2 [.int .i64 a2] (fun _ => True) (fun _ => False) rfl rfl ?aP (fun _ hk => hk.elim) ?aF ?aO ?aB ?aS ?aL ?_; (case aP => exact rfl); (case aB => exact (by with_reducible repeat (first | exact HB.out | apply below_alloc | apply pw_below_drewN | apply below_drew1))); (case aF => exact (fun _ _ => trivial)); (case aO => exact (by (with_reducible repeat (first | apply Kd.R_drewN | apply Kd.R_drew)); exact HO.out)); (case aS => exact below_size (by with_reducible repeat (first | exact HB.out | apply below_alloc | apply pw_below_drewN | apply below_drew1))); (case aL => have := LN.out; omega); intro v12 w12 ho hb hg hat; rw [← NY.out] at ho; clear HO HB hg hat; have HO := Aside0.mk ho; have HB := Aside0.mk hb; clear ho hb; obtain ⟨A12, c12, e12⟩ := Kd.R_slice HO.out; subst e12))
                  have hYl : Y.length = cl.length + 1 := by rw [NY.out]; simp
                  obtain ⟨gy, cy, ey, hgb, hgl, cells, hcells⟩ := Kd.R_form HO.out (by omega)
                  injection ey with ea en ec
                  subst ea
                  subst ec
                  clear en hcells
                  have HO6 := Aside0.mk (Kd.R_drew HO.out)
                  have HB6 := Aside0.mk (below_drew1 HB.out)
                  obtain ⟨ad, e0, hx⟩ := Kd.at_int (Kd.R_reads' HO6.out).2.2 0 (by omega) (by omega)
                  cases e0
                  have hx0 : w12.drew.cell? ⟨gy, 0, none⟩ = some (.int .i64 (rd Y 0)) := hx
                  have hrd : rd Y 0 = impl_KeepBlock.hd Y := by
                    cases Y with
                    | nil => simp at hYl
                    | cons y t => rfl
                  rw [hrd] at hx0
                  have hlen : Y.length - 1 = (Y.drop 1).length := by rw [List.length_drop]
                  have hcap := (Kd.R_reads' HO6.out).2.1
                  have CD := Aside0.mk (Kd.C_drop (m := 1) (Kd.R_reads' HO6.out).2.2 (by omega) hcap)
                  have hcp : Y.length - 1 ≤ c12 - 1 := by omega
                  have hc1 : (1 : Int) ≤ (Y.length : Int) := by omega
                  have hy0 : (0 : Int) < (Y.length : Int) := by omega
                  have hy0n : 0 < Y.length := by omega
                  have hc1n : 1 ≤ Y.length := by omega
                  have HLEN := Aside0.mk hlen
                  clear hx hrd hYl hlen
                  refine start_ (n := 8) (S := fun w' => w'.cell? ⟨gy, 0, none⟩ = some (.int .i64 (impl_KeepBlock.hd Y))) (ds := []) #[false, false, false, false, false, false, false, false] (by kernel_rfl) rfl rfl hx0 (fun hHeld => ?_)
                  generalize hw6 : w12.drew = w13 at HO6 HB6 CD hx0 hHeld ⊢
                  clear hw6 HO HB
                  refine pure_ (i := 0) (N := some 58) (v := ?_) (a' := ?_) #[true, false, false, false, false, false, false, false] rfl rfl (by kernel_rfl) (fun _ _ _ h => h) (Or.inl ⟨by rfl, ?_⟩) ?_ ?_
                  rotate_left
                  · intro w'
                    go_simp
                    with_reducible rfl
                  rotate_left
                  · simp only [Act.put, List.setIfInBounds_toArray, List.set_cons_zero, List.set_cons_succ, i64_w, i32_w]
                    rfl
                  refine pure_ (i := 1) (N := some 59) (v := ?_) (a' := ?_) #[true, true, false, false, false, false, false, false] rfl rfl (by kernel_rfl) (fun _ _ _ h => h) (Or.inl ⟨by rfl, ?_⟩) ?_ ?_
                  rotate_left
                  · intro w'
                    go_simp
                    with_reducible rfl
                  rotate_left
                  · simp only [Act.put, List.setIfInBounds_toArray, List.set_cons_zero, List.set_cons_succ, i64_w, i32_w]
                    rfl
                  refine take_ (i := 2) (N := some 60) (v := ?_) (a' := ?_) #[true, true, true, false, false, false, false, false] rfl rfl (by kernel_rfl) (fun _ _ _ h => h) (Or.inl ⟨by rfl, ?_⟩) hHeld ?_ ?_
                  rotate_left
                  · rintro w' s0
                    go_simp
                    with_reducible rfl
                  rotate_left
                  · simp only [Act.put, List.setIfInBounds_toArray, List.set_cons_zero, List.set_cons_succ, i64_w, i32_w]
                    rfl
                  refine pure_ (i := 3) (N := some 61) (v := ?_) (a' := ?_) #[true, true, true, true, false, false, false, false] rfl rfl (by kernel_rfl) (fun _ _ _ h => h) (Or.inl ⟨by rfl, ?_⟩) ?_ ?_
                  rotate_left
                  · intro w'
                    go_simp
                    with_reducible rfl
                  rotate_left
                  · simp only [Act.put, List.setIfInBounds_toArray, List.set_cons_zero, List.set_cons_succ, i64_w, i32_w]
                    rfl
                  refine pure_ (i := 4) (N := some 62) (v := ?_) (a' := ?_) #[true, true, true, true, true, false, false, false] rfl rfl (by kernel_rfl) (fun _ _ _ h => h) (Or.inl ⟨by rfl, ?_⟩) ?_ ?_
                  rotate_left
                  · intro w'
                    go_simp
                    with_reducible rfl
                  rotate_left
                  · simp only [Act.put, List.setIfInBounds_toArray, List.set_cons_zero, List.set_cons_succ, i64_w, i32_w]
                    rfl
                  refine one_ (i := 5) (N := some 63) #[true, true, true, true, true, true, false, false] rfl rfl (by kernel_rfl) (by decide) (fun K hK => ?_)
                  refine goes_ Try.func65 (by kernel_rfl) rfl #[.slice (if c12 = 1 then (some ⟨gy, 0, none⟩ : Option Addr) else some ⟨gy, 1, none⟩) (Y.drop 1).length (c12 - 1)] (by rfl) rfl rfl (by (try simp only [List.map_toArray, List.map_cons, List.map_nil]); first | done | rfl | (rw [← HLEN.out]; rfl)) ?_
                  (refine (slices_Clone_int_int.calls _ (c12 - 1) (Y.drop 1) c2 _ CD.out (by rw [← HLEN.out]; exact hcp) AZ.out).mono ?_)
                  rintro e w14 ⟨v14, rfl, hv, hb⟩
                  refine ⟨_, rfl, ?_⟩
                  have HO := Aside0.mk (Kd.R_lower hv (below_size HB6.out))
                  have HB := Aside0.mk (below_step HB6.out hb)
                  have hx5 : w14.cell? ⟨gy, 0, none⟩ = some (.int .i64 (impl_KeepBlock.hd Y)) := (hb.cell (p := ⟨gy, 0, none⟩) (impl_KeepBlock.cell_lt hx0)).trans hx0
                  clear hv hb
                  refine hK.out _ _ hx5 (fun hHeld => ?_)
                  clear hK K
                  refine norm_ (a' := ?_) ?_ ?_
                  rotate_left
                  · show Act.put _ (some 63) _ = _
                    simp only [Act.put, List.setIfInBounds_toArray, List.set_cons_zero, List.set_cons_succ, i64_w, i32_w]
                    rfl
                  refine pure_ (i := 6) (N := some 11) (v := ?_) (a' := ?_) #[true, true, true, true, true, true, true, false] rfl rfl (by kernel_rfl) (fun _ _ _ h => h) (Or.inl ⟨by rfl, ?_⟩) ?_ ?_
                  rotate_left
                  · intro w'
                    go_simp
                    with_reducible rfl
                  rotate_left
                  · simp only [Act.put, List.setIfInBounds_toArray, List.set_cons_zero, List.set_cons_succ, i64_w, i32_w]
                    rfl
                  refine pure_ (i := 7) (N := some 10) (v := ?_) (a' := ?_) #[true, true, true, true, true, true, true, true] rfl rfl (by kernel_rfl) (fun _ _ _ h => h) (Or.inl ⟨by rfl, ?_⟩) ?_ ?_
                  rotate_left
                  · intro w'
                    go_simp
                    with_reducible rfl
                  rotate_left
                  · simp only [Act.put, List.setIfInBounds_toArray, List.set_cons_zero, List.set_cons_succ, i64_w, i32_w]
                    rfl
                  refine done_ (by kernel_rfl) ?_
                  clear hHeld hx5 hx0
                  generalize (if c12 = 1 then (some ⟨gy, 0, none⟩ : Option Addr) else some ⟨gy, 1, none⟩) = AX
                  go_wp2
                  refine bodyPost_ret (results_tmp3 rfl _ _ _) rfl ?_
                  exact ⟨v14, by first | rfl | (simp; done), by (with_reducible repeat (first | apply Kd.R_drewN | apply Kd.R_drew)); exact HO.out, (by with_reducible repeat (first | exact HB.out | apply below_alloc | apply pw_below_drewN | apply below_drew1))⟩
            · rw [if_neg hln] at h; cases h
      · rw [if_neg hcl] at h
        have zb := bne_iff_ne.mpr hcl
        simp only [Option.some.injEq, Prod.mk.injEq] at h
        obtain ⟨rfl, rfl, rfl⟩ := h
        go_enter Try.func32, Try.ntmps32
        go_wp2_with (first | ((with_reducible refine gate_callee (f := 62) rfl ?_); refine goesL_ (some 14) rfl rfl Try.func62 (by kernel_rfl) rfl #[.slice A0 l0.length c0] rfl (by (try simp only [List.map_toArray, List.map_cons, List.map_nil]); first | done | rfl) ?_; (refine (impl_KeepBlock.values_box A0 l0.length c0 _).mono ?_); rintro e w5 ⟨Bx, rfl, hbx, hb⟩; refine ⟨_, rfl, ?_⟩; have BX := Aside0.mk hbx; clear hbx; have nHB := Aside0.mk (below_step (by with_reducible repeat (first | exact HB.out | apply below_alloc | apply pw_below_drewN | apply below_drew1)) hb); clear HB; have HB := nHB; clear nHB hb) | ((with_reducible refine gate_callee (f := 61) rfl ?_); refine goesL_ (some 15) rfl rfl Try.func61 (by kernel_rfl) rfl #[.func (.func 97) #[] #[.pointer (some ⟨Bx, 0, none⟩)]] rfl (by (try simp only [List.map_toArray, List.map_cons, List.map_nil]); first | done | rfl) ?_; (refine (impl_KeepBlock.sorted_calls A0 c0 Bx l0 so _ (by (with_reducible repeat (first | refine blk_drewN ?_ _ | refine blk_drew ?_)); exact BX.out) (Kd.C_below HR.out (by with_reducible repeat (first | exact HB.out | apply below_alloc | apply pw_below_drewN | apply below_drew1))) (by have := SZ.out; omega) AS.out).mono ?_); rintro e w6 ⟨v6, rfl, hv, hb⟩; refine ⟨_, rfl, ?_⟩; have HO := Aside0.mk (Kd.R_lower hv (below_size (by with_reducible repeat (first | exact HB.out | apply below_alloc | apply pw_below_drewN | apply below_drew1)))); clear hv BX; have nHB := Aside0.mk (below_step (by with_reducible repeat (first | exact HB.out | apply below_alloc | apply pw_below_drewN | apply below_drew1)) hb); clear HB; have HB := nHB; clear nHB hb) | (go_at_call 63; (with_reducible refine (slices_Compact_int_int.calls (fun _ => True) v6 so co w _ ?sideB ?side1 AC.out).mono ?_); (case sideB => exact (by with_reducible repeat (first | exact HB.out | apply below_alloc | apply pw_below_drewN | apply below_drew1))); (case side1 => exact (by (with_reducible repeat (first | apply Kd.R_drewN | apply Kd.R_drew)); exact HO.out)); rintro e w7 ⟨v7, rfl, hv, hb, hk⟩; obtain ⟨A7, c7, e7⟩ := Kd.R_slice hv; subst e7; clear HO HB hv hk; have HB := Aside0.mk hb; clear hb))
        refine bodyPost_ret (results_tmp3 rfl _ _ _) rfl ?_
        exact ⟨.slice none 0 0, by first | rfl | (simp; done), Kd.R_nil _ _ _ _ _, (by with_reducible repeat (first | exact HB.out | apply below_alloc | apply pw_below_drewN | apply below_drew1))⟩
  · rw [if_neg hsz] at h; cases h

/-! ### laws_eqIntS: function 33 -/
def laws_eqIntS.l0 : Nat → List Int → List Int → Int → Option (Bool)
  | 0, _, _, _ => none
  | k + 1, x0, x1, x5 => if x5 < (x0.length : Int) then (if 0 ≤ x5 then (if x5 < (x1.length : Int) then (if (rd x0 x5) = (rd x1 x5) then (laws_eqIntS.l0 k x0 x1 (wrap64 (x5 + 1))) else (some false)) else (none)) else (none)) else (some true)
def laws_eqIntS.f (k : Nat) (l0 : List Int) (l1 : List Int) : Option (Bool) := if (l0.length : Int) = (l1.length : Int) then (laws_eqIntS.l0 k l0 l1 0) else (some false)
theorem laws_eqIntS.mono_l : ∀ k, (∀ y0 y1 y2, LeO (laws_eqIntS.l0 k y0 y1 y2) (laws_eqIntS.l0 (k + 1) y0 y1 y2))
  | 0 => fun _ _ _ r h => by simp [laws_eqIntS.l0] at h
  | k + 1 => by
    have ih0 := laws_eqIntS.mono_l k
    · intro y0 y1 y2
      unfold laws_eqIntS.l0
      repeat' first
      | (with_reducible exact ih0 _ _ _)
      | (with_reducible exact LeO.refl _)
      | (with_reducible exact LeO.none _)
      | (with_reducible refine LeO.ite ?_ ?_)
      | (with_reducible refine LeO.bind ?_ (fun _ => ?_))
      | exact ih0 _ _ _
      | exact LeO.none _
      | refine LeO.ite ?_ ?_
      | refine LeO.bind ?_ (fun _ => ?_)
theorem laws_eqIntS.mono : ∀ a0 a1 k, LeO (laws_eqIntS.f k a0 a1) (laws_eqIntS.f (k + 1) a0 a1) := by
  intro a0 a1 k
  have ih0 := laws_eqIntS.mono_l k
  unfold laws_eqIntS.f
  repeat' first
      | (with_reducible exact ih0 _ _ _)
      | (with_reducible exact LeO.refl _)
      | (with_reducible exact LeO.none _)
      | (with_reducible refine LeO.ite ?_ ?_)
      | (with_reducible refine LeO.bind ?_ (fun _ => ?_))
      | exact ih0 _ _ _
      | exact LeO.none _
      | refine LeO.ite ?_ ?_
      | refine LeO.bind ?_ (fun _ => ?_)
set_option maxHeartbeats 8000000 in
set_option maxRecDepth 100000 in
theorem laws_eqIntS.calls (k : Nat) (A0 : Option Addr) (c0 : Nat) (l0 : List Int) (A1 : Option Addr) (c1 : Nat) (l1 : List Int) (r : Bool) (w : World) (hr0 : Kd.C (Kd.int .i64) w A0 l0.length l0) (hc0 : l0.length ≤ c0) (hr1 : Kd.C (Kd.int .i64) w A1 l1.length l1) (hc1 : l1.length ≤ c1) (h : laws_eqIntS.f k l0 l1 = some r) :
    Calls Try.prog 33 #[.slice A0 l0.length c0, .slice A1 l1.length c1] w fun e w' => e = .returned (.bool r) ∧ Drawn0 w w' := by
  have HR0 := Aside0.mk hr0
  have HC0 := Aside0.mk hc0
  clear hr0 hc0
  have HR1 := Aside0.mk hr1
  have HC1 := Aside0.mk hc1
  clear hr1 hc1
  have H : (if (l0.length : Int) = (l1.length : Int) then (laws_eqIntS.l0 k l0 l1 0) else (some false)) = some r := h
  clear h
  by_cases c3 : (l0.length : Int) = (l1.length : Int)
  · rw [if_pos c3] at H
    have c3b0 : ((l0.length : Int) == (l1.length : Int)) = true := beq_iff_eq.mpr c3
    have c3b1 : ((l0.length : Int) != (l1.length : Int)) = false := bne_eq_false_iff_eq.mpr c3
    have c3b2 : (l0.length == l1.length) = true := by first | simpa using c3 | (simp at c3 ⊢; omega)
    clear c3
    have H' := Aside0.mk H
    clear H
    go_enter Try.func33, Try.ntmps33
    go_wp2
    repeat (go_quiet (fail); try go_wp2)
    go_loopg [5] k (fun kq v5 w' => ∃ (x5_1 : Int), v5 = .int .i64 x5_1 ∧ Aside0 (laws_eqIntS.l0 kq l0 l1 x5_1 = some r) ∧ Aside0 (kq ≤ k) ∧ Drawn0 w w')
    case atStart => exact ⟨(0), (by first | rfl | (simp; done) | (simp [*]; done)), H', ⟨Nat.le_refl _⟩, by repeat (first | exact Drawn0.refl _ | apply Drawn0.step)⟩
    case round =>
      clear H'
      try clear c1
      try clear p2
      try clear c3
      try clear c3b0
      try clear c3b1
      try clear c3b2
      obtain ⟨x5_1, rfl, HA, HK1, ⟨m1, rfl⟩⟩ := hrel
      cases gk with
      | zero => exact absurd HA.out (by simp [laws_eqIntS.l0])
      | succ k1 =>
        have H := HA.out
        clear HA
        simp only [laws_eqIntS.l0] at H
        by_cases c4 : x5_1 < (l0.length : Int)
        · rw [if_pos c4] at H
          have c4b0 : decide (x5_1 < (l0.length : Int)) = true := decide_eq_true c4
          clear c4
          by_cases c5 : 0 ≤ x5_1
          · rw [if_pos c5] at H
            have c5b0 : decide (0 ≤ x5_1) = true := decide_eq_true c5
            clear c5
            by_cases c6 : x5_1 < (l1.length : Int)
            · rw [if_pos c6] at H
              have c6b0 : decide (x5_1 < (l1.length : Int)) = true := decide_eq_true c6
              clear c6
              by_cases c7 : (rd l0 x5_1) = (rd l1 x5_1)
              · rw [if_pos c7] at H
                have c7b0 : ((rd l0 x5_1) == (rd l1 x5_1)) = true := beq_iff_eq.mpr c7
                have c7b1 : ((rd l0 x5_1) != (rd l1 x5_1)) = false := bne_eq_false_iff_eq.mpr c7
                clear c7
                have H' := Aside0.mk H
                clear H
                have p107 : 0 ≤ (x5_1 : Int) := of_decide_eq_true (by first | (with_reducible assumption) | assumption)
                have q107 : x5_1 < (l0.length : Int) := of_decide_eq_true (by first | (with_reducible assumption) | assumption)
                obtain ⟨ad107, e107, hx107_0⟩ := Kd.at_int HR0.out x5_1 p107 q107
                cases e107
                replace p107 := eq_true p107
                replace q107 := eq_true q107
                have p108 : 0 ≤ (x5_1 : Int) := of_decide_eq_true (by first | (with_reducible assumption) | assumption)
                have q108 : x5_1 < (l1.length : Int) := of_decide_eq_true (by first | (with_reducible assumption) | assumption)
                obtain ⟨ad108, e108, hx108_0⟩ := Kd.at_int HR1.out x5_1 p108 q108
                cases e108
                replace p108 := eq_true p108
                replace q108 := eq_true q108
                go_wp2
                repeat (go_quiet (fail); try go_wp2)
                go_roundg k1
                case measure => have := HK1.out; omega
                case rel => exact ⟨(wrap64 (x5_1 + 1)), (by first | rfl | (simp; done) | (simp [*]; done)), H', ⟨by have := HK1.out; omega⟩, by repeat (first | exact Drawn0.refl _ | apply Drawn0.step)⟩
              · rw [if_neg c7] at H
                have c7b0 : ((rd l0 x5_1) == (rd l1 x5_1)) = false := beq_eq_false_iff_ne.mpr c7
                have c7b1 : ((rd l0 x5_1) != (rd l1 x5_1)) = true := bne_iff_ne.mpr c7
                obtain rfl := Option.some.inj H
                have p107 : 0 ≤ (x5_1 : Int) := of_decide_eq_true (by first | (with_reducible assumption) | assumption)
                have q107 : x5_1 < (l0.length : Int) := of_decide_eq_true (by first | (with_reducible assumption) | assumption)
                obtain ⟨ad107, e107, hx107_0⟩ := Kd.at_int HR0.out x5_1 p107 q107
                cases e107
                replace p107 := eq_true p107
                replace q107 := eq_true q107
                have p108 : 0 ≤ (x5_1 : Int) := of_decide_eq_true (by first | (with_reducible assumption) | assumption)
                have q108 : x5_1 < (l1.length : Int) := of_decide_eq_true (by first | (with_reducible assumption) | assumption)
                obtain ⟨ad108, e108, hx108_0⟩ := Kd.at_int HR1.out x5_1 p108 q108
                cases e108
                replace p108 := eq_true p108
                replace q108 := eq_true q108
                go_wp2
                repeat (go_quiet (fail); try go_wp2)
                go_ret
                exact ⟨by first | rfl | (simp; done) | (simp [*]; done), by repeat (first | exact Drawn0.refl _ | apply Drawn0.step)⟩
            · rw [if_neg c6] at H
              exact absurd H (by simp)
          · rw [if_neg c5] at H
            exact absurd H (by simp)
        · rw [if_neg c4] at H
          have c4b0 : decide (x5_1 < (l0.length : Int)) = false := decide_eq_false c4
          clear c4
          obtain rfl := Option.some.inj H
          go_wp2
          repeat (go_quiet (fail); try go_wp2)
          go_ret
          exact ⟨by first | rfl | (simp; done) | (simp [*]; done), by repeat (first | exact Drawn0.refl _ | apply Drawn0.step)⟩
  · rw [if_neg c3] at H
    have c3b0 : ((l0.length : Int) == (l1.length : Int)) = false := beq_eq_false_iff_ne.mpr c3
    have c3b1 : ((l0.length : Int) != (l1.length : Int)) = true := bne_iff_ne.mpr c3
    have c3b2 : (l0.length == l1.length) = false := by first | simpa using c3 | (simp at c3 ⊢; omega)
    obtain rfl := Option.some.inj H
    go_enter Try.func33, Try.ntmps33
    go_wp2
    repeat (go_quiet (fail); try go_wp2)
    go_ret
    exact ⟨by first | rfl | (simp; done) | (simp [*]; done), by repeat (first | exact Drawn0.refl _ | apply Drawn0.step)⟩

/-! ### laws_markIntS: function 34 -/
def laws_markIntS.l0 : Nat → List Int → Int → Int → Option (Int × List Int)
  | 0, _, _, _ => none
  | k + 1, x0, x1, x5 => if x5 < (x0.length : Int) then (if 0 ≤ x5 then (laws_markIntS.l0 k (x0.set (x5 : Int).toNat x1) (wrap64 (x1 + 1)) (wrap64 (x5 + 1))) else (none)) else (some (x1, x0))
def laws_markIntS.f (k : Nat) (l0 : List Int) (a1 : Int) : Option (Int × List Int) := laws_markIntS.l0 k l0 a1 0
theorem laws_markIntS.mono_l : ∀ k, (∀ y0 y1 y2, LeO (laws_markIntS.l0 k y0 y1 y2) (laws_markIntS.l0 (k + 1) y0 y1 y2))
  | 0 => fun _ _ _ r h => by simp [laws_markIntS.l0] at h
  | k + 1 => by
    have ih0 := laws_markIntS.mono_l k
    · intro y0 y1 y2
      unfold laws_markIntS.l0
      repeat' first
      | (with_reducible exact ih0 _ _ _)
      | (with_reducible exact LeO.refl _)
      | (with_reducible exact LeO.none _)
      | (with_reducible refine LeO.ite ?_ ?_)
      | (with_reducible refine LeO.bind ?_ (fun _ => ?_))
      | exact ih0 _ _ _
      | exact LeO.none _
      | refine LeO.ite ?_ ?_
      | refine LeO.bind ?_ (fun _ => ?_)
theorem laws_markIntS.mono : ∀ a0 a1 k, LeO (laws_markIntS.f k a0 a1) (laws_markIntS.f (k + 1) a0 a1) := by
  intro a0 a1 k
  have ih0 := laws_markIntS.mono_l k
  unfold laws_markIntS.f
  repeat' first
      | (with_reducible exact ih0 _ _ _)
      | (with_reducible exact LeO.refl _)
      | (with_reducible exact LeO.none _)
      | (with_reducible refine LeO.ite ?_ ?_)
      | (with_reducible refine LeO.bind ?_ (fun _ => ?_))
      | exact ih0 _ _ _
      | exact LeO.none _
      | refine LeO.ite ?_ ?_
      | refine LeO.bind ?_ (fun _ => ?_)
set_option maxHeartbeats 8000000 in
set_option maxRecDepth 100000 in
theorem laws_markIntS.calls (k : Nat) (P0_ : Nat → Prop) (u9000_ : Value) (l0 : List Int) (a1 : Int) (r1 : Int) (r2 : List Int) (w0 w : World) (hB : Below w0.heap.size w0 w) (ho0 : Kd.R (Kd.int .i64) 3 w w0.heap.size P0_ u9000_ l0) (h : laws_markIntS.f k l0 a1 = some (r1, r2)) :
    Calls Try.prog 34 #[u9000_, .int .i64 a1] w fun e w' => e = .returned (.int .i64 r1) ∧ Kd.R (Kd.int .i64) 3 w' w0.heap.size (fun k_ => (P0_ k_ ∨ w.heap.size ≤ k_)) u9000_ r2 ∧ Below w0.heap.size w0 w' ∧ Kept w w' (fun k_ => P0_ k_) := by
  have HO0 := Aside0.mk (show Kd.R (Kd.int .i64) 3 w w0.heap.size (fun k_ => (P0_ k_ ∨ w.heap.size ≤ k_)) u9000_ l0 from Kd.R_mono ho0 (fun k_ hk => (.inl hk)))
  have HK := Aside0.mk (Kept.refl w (fun k_ => P0_ k_))
  have HW0 := Aside0.mk hB.size
  have HB := Aside0.mk hB
  clear hB
  have H : (laws_markIntS.l0 k l0 a1 0) = some (r1, r2) := h
  clear h
  have H' := Aside0.mk H
  clear H
  go_enter Try.func34, Try.ntmps34
  go_wp2
  go_loopg [1, 5] k (fun kq v1 v5 w' => ∃ (x0_1 : List Int) (x1_1 : Int) (x5_1 : Int), v1 = .int .i64 x1_1 ∧ v5 = .int .i64 x5_1 ∧ Aside0 (laws_markIntS.l0 kq x0_1 x1_1 x5_1 = some (r1, r2)) ∧ Aside0 (kq ≤ k) ∧ Aside0 (Kd.R (Kd.int .i64) 3 w' w0.heap.size (fun k_ => (P0_ k_ ∨ w.heap.size ≤ k_)) u9000_ x0_1) ∧ Aside0 (Kept w w' (fun k_ => P0_ k_)) ∧ Aside0 (Below w0.heap.size w0 w'))
  case atStart => exact ⟨(l0), (a1), (0), (by first | rfl | (simp; done) | (simp [*]; done)), (by first | rfl | (simp; done) | (simp [*]; done)), H', ⟨Nat.le_refl _⟩, ⟨by (with_reducible repeat (first | apply Kd.R_alloc | apply Kd.R_drewN | apply Kd.R_drew)); exact HO0.out⟩, ⟨by repeat (first | (with_reducible first | exact HK.out | apply Kept.alloc | apply Kept.drewN | apply Kept.drew) | exact HK.out)⟩, ⟨by repeat (first | (with_reducible first | exact HB.out | apply below_alloc | apply pw_below_drewN | apply below_drew1) | exact HB.out)⟩⟩
  case round =>
    clear H'
    try clear p2
    obtain ⟨x0_1, x1_1, x5_1, rfl, rfl, HA, HK1, HO_0, HK, HB⟩ := hrel
    cases gk with
    | zero => exact absurd HA.out (by simp [laws_markIntS.l0])
    | succ k1 =>
      have H := HA.out
      clear HA
      simp only [laws_markIntS.l0] at H
      by_cases c3 : x5_1 < (x0_1.length : Int)
      · rw [if_pos c3] at H
        have c3b0 : decide (x5_1 < (x0_1.length : Int)) = true := decide_eq_true c3
        clear c3
        by_cases c4 : 0 ≤ x5_1
        · rw [if_pos c4] at H
          have c4b0 : decide (0 ≤ x5_1) = true := decide_eq_true c4
          clear c4
          obtain ⟨y109, hy109⟩ : ∃ y_ : List Int, y_ = (x0_1.set (x5_1 : Int).toNat x1_1) := ⟨_, rfl⟩
          replace H : (laws_markIntS.l0 k1 y109 (wrap64 (x1_1 + 1)) (wrap64 (x5_1 + 1))) = some (r1, r2) := by first | (rw [hy109]; with_reducible exact H) | (have H2_ := (Option.bind_some _ _).symm.trans H; rw [hy109]; with_reducible exact H2_) | (have H2_ := (Option.bind_some _ _).symm.trans H; with_reducible exact H2_) | with_reducible exact H | (rw [hy109]; exact H) | exact H
          have Ny109 := Aside0.mk hy109
          clear hy109
          have H' := Aside0.mk H
          clear H
          obtain ⟨Ao6, co6, eo6⟩ := Kd.R_slice HO_0.out
          subst eo6
          have p5 : 0 ≤ (x5_1 : Int) := of_decide_eq_true (by first | (with_reducible assumption) | assumption)
          have q5 : (x5_1 : Int) < ((x0_1.length : Int) : Int) := of_decide_eq_true (by first | (with_reducible assumption) | assumption)
          obtain ⟨go5, co5, eo5, gb5, gl5, cl5, HG5⟩ := Kd.R_form HO_0.out (by omega)
          (first | cases eo5 | (injection eo5 with ea_ en_ ec_; (first | subst ea_ | (injection ea_ with ea_; subst ea_)); subst ec_; clear en_))
          have GB5 := Aside0.mk gb5
          have GG5 := Aside0.mk HG5
          clear gb5 gl5 HG5
          have HMgo5 := Aside0.mk (show (P0_ go5 ∨ w.heap.size ≤ go5) from (HO_0.out.1 _ rfl))
          obtain ⟨hx5_0, hf5_0⟩ := Kd.R_celln 0 HO_0.out (x5_1 : Int) p5 q5
          replace p5 := eq_true p5
          replace q5 := eq_true q5
          have HP7 := Kd.R_putg HO_0.out (x5_1 : Int) x1_1
          go_wp2_with (first | ((with_reducible refine gate_store (t := 3) (p := 15) rfl ?_); refine store_event (t := 3) (p := 15) (v := ?vo_w8) (w1 := (wr.setCell ⟨go5, (x5_1 : Int).toNat, none⟩ (.int .i64 x1_1))) ?hg ?ho ?hn ?hr ?_; (case ho => rfl); (case hg => rfl); (case hn => rfl); (case hr => first | (go_simp; done) | (go_simp; rfl)); intro w8 hw; have hg : wr.grownBy w8 (some go5) := (by rw [hw]; exact HP7.2); have hp_ : Kd.R (Kd.int .i64) 3 w8 w0.heap.size (fun k_ => (P0_ k_ ∨ w.heap.size ≤ k_)) (.slice (some ⟨go5, 0, none⟩) x0_1.length co6) y109 := (by rw [hw, Ny109.out]; exact HP7.1); clear HP7; have n0_ := Aside0.mk (hp_); have n1_ := Aside0.mk ((by rw [hw]; exact below_set (HB.out) GB5.out : Below w0.heap.size w0 w8)); have n2_ := Aside0.mk (Kept.of_grown (S := (fun k_ => P0_ k_)) hg (by repeat (first | (with_reducible first | exact HK.out | apply Kept.alloc | apply Kept.drewN | apply Kept.drew) | exact HK.out)) (fun k_ e_ => (HO_0.out.1 k_ e_))); clear HO_0; clear HB; clear HK; have HO_0 := n0_; have HB := n1_; have HK := n2_; clear n0_ n1_ n2_; clear hg hw hp_))
          go_roundg k1
          case measure => have := HK1.out; omega
          case rel => exact ⟨(y109), (wrap64 (x1_1 + 1)), (wrap64 (x5_1 + 1)), (by first | rfl | (simp; done) | (simp [*]; done)), (by first | rfl | (simp; done) | (simp [*]; done)), H', ⟨by have := HK1.out; omega⟩, ⟨by (with_reducible repeat (first | apply Kd.R_alloc | apply Kd.R_drewN | apply Kd.R_drew)); exact HO_0.out⟩, ⟨by repeat (first | (with_reducible first | exact HK.out | apply Kept.alloc | apply Kept.drewN | apply Kept.drew) | exact HK.out)⟩, ⟨by repeat (first | (with_reducible first | exact HB.out | apply below_alloc | apply pw_below_drewN | apply below_drew1) | exact HB.out)⟩⟩
        · rw [if_neg c4] at H
          exact absurd H (by simp)
      · rw [if_neg c3] at H
        have c3b0 : decide (x5_1 < (x0_1.length : Int)) = false := decide_eq_false c3
        clear c3
        simp only [Option.some.injEq, Prod.mk.injEq] at H
        obtain ⟨rfl, rfl⟩ := H
        obtain ⟨Ao9, co9, eo9⟩ := Kd.R_slice HO_0.out
        subst eo9
        go_wp2
        go_ret
        exact ⟨by first | rfl | (simp [errW_none, errW_some] <;> rfl) | (simp [*, errW_none, errW_some] <;> rfl), by (with_reducible repeat (first | apply Kd.R_alloc | apply Kd.R_drewN | apply Kd.R_drew)); exact HO_0.out, by repeat (first | (with_reducible first | exact HB.out | apply below_alloc | apply pw_below_drewN | apply below_drew1) | exact HB.out), by repeat (first | (with_reducible first | exact HK.out | apply Kept.alloc | apply Kept.drewN | apply Kept.drew) | exact HK.out)⟩

end Go.Proofs.Ytadkabbeghpgcaa.PFnExactKeepBlock
