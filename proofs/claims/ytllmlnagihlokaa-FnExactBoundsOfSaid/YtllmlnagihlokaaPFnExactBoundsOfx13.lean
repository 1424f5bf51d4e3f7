-- Written by a program of this session.
import Derived.Test.YtllmlnagihlokaaShelf
import Derived.Test.YtllmlnagihlokaaPFnExactBoundsOfx0
import Derived.Test.YtllmlnagihlokaaPFnExactBoundsOfx12
namespace Go.Proofs.Ytllmlnagihlokaa.PFnExactBoundsOf
open Go.RowKit Go.Proofs.YtllmlnagihlokaaW.PrintWords Go.Proofs.YtllmlnagihlokaaW.PrintLast Go.Proofs.YtllmlnagihlokaaW.PrintMore
attribute [local go_sem] max2_int min2_int max_two min_two max_three min_three max_four min_four hw_string_geq hw_string_gtr hw_string_leq
set_option linter.unusedVariables false
set_option linter.unusedSimpArgs false
/-! ### slices_Sort_int_int: function 45, by hand -/
def slices_Sort_int_int.f (l0 : List Int) : Option (List Int) := if l0.length < 4611686018427387904 then some (l0.mergeSort fun x y => decide (x ≤ y)) else none
theorem slices_Sort_int_int.cells {g cap : Nat} {cur : Array Value} {e : TypeId} {w : World} {l : List Int} (hb : w.heap[g]? = some (.cells cur e (0, 0))) (ht : cur.toList.take (l.length * 1) = encs (Value.int .i64) l) (hn : l.length ≤ cap) (hs : cur.size = cap * 1) : Go.Sort.Holds (Value.int .i64) w g 0 l.toArray := by
 intro j hj
 have hj2 : j < l.length := by simpa using hj
 refine ⟨?_, ?_⟩
 ·rw [Nat.zero_add]
  refine (blk_cell hb j).trans ?_
  have h1 : cur[j]? = (cur.toList.take (l.length * 1))[j]? := by
   rw [List.getElem?_take_of_lt (by omega), Array.getElem?_toList]
  rw [h1, ht]
  simp [encs, hj2]
 ·rw [Nat.zero_add]; exact blk_frozen hb j
theorem slices_Sort_int_int.put {cap : Nat} {cur : Array Value} {n : Nat} {d : List Int} (hd : d.length = n) (hn : n ≤ cap) (hs : cur.size = cap * 1) (m : Nat) (hm : m ≤ n) : (Go.Sort.putCells (Value.int .i64) 0 d.toArray cur).toList.take (m * 1) = encs (Value.int .i64) (d.take m) := by
 apply List.ext_getElem?
 intro k
 by_cases hk : k < m
 ·have h1 : k < cur.size := by omega
  have h2 : k < d.length := by omega
  rw [List.getElem?_take_of_lt (by omega)]
  simp [encs, Go.Sort.putCells, hk, h1, h2]
 ·rw [List.getElem?_eq_none (by simp; omega), List.getElem?_eq_none (by simp [encs]; omega)]
set_option maxHeartbeats 8000000 in
set_option maxRecDepth 100000 in
theorem slices_Sort_int_int.calls (P0_ : Nat → Prop) (u9000_ : Value) (l0 : List Int) (r1 : List Int) (w0 w : World) (hB : Below w0.heap.size w0 w) (ho0 : Kd.R (Kd.int .i64) 3 w w0.heap.size P0_ u9000_ l0) (h : slices_Sort_int_int.f l0 = some (r1)) :
  Calls Try.prog 45 #[u9000_] w fun e w' => e = .returned (.tuple #[]) ∧ Kd.R (Kd.int .i64) 3 w' w0.heap.size (fun k_ => (P0_ k_ ∨ w.heap.size ≤ k_)) u9000_ r1 ∧ Below w0.heap.size w0 w' ∧ Kept w w' (fun k_ => P0_ k_) := by
 unfold slices_Sort_int_int.f at h
 by_cases hsz : l0.length < 4611686018427387904
 ·rw [if_pos hsz] at h
  obtain rfl := Option.some.inj h; clear h; have ho := Kd.own_of_R ho0; obtain ⟨hlen, ⟨rfl, h0⟩ | ⟨g, cap, cur, rfl, hbase, hheap, hncap, hcap, hsize, htake⟩⟩ := ho; · have hnil : l0 = [] := List.eq_nil_of_length_eq_zero h0; subst hnil; refine (Go.Proofs.Try.slices_Sort_int_none none 0 w).mono ?_; rintro e w' ⟨rfl, rfl⟩; exact ⟨rfl, by simpa using Kd.R_mono ho0 (fun k_ hk => .inl hk), hB, Kept.refl _ _⟩
  ·have hg : g < w.heap.size := blk_lt hheap
   refine (Go.Proofs.Try.slices_Sort_int g 0 cap l0 w (slices_Sort_int_int.cells hheap htake hncap hsize) hg hsz).mono ?_; rintro e w' ⟨rfl, q, os, rfl⟩; have hml : (l0.mergeSort fun x y => decide (x ≤ y)).length = l0.length := List.length_mergeSort _
   have hw : ∀ i, i < w.heap.size → i ≠ g → (Go.Sort.grow (Go.Sort.putRow (Value.int .i64) (Go.Sort.ahead w q) g 0 (l0.mergeSort fun x y => decide (x ≤ y)).toArray) os).heap[i]? = w.heap[i]? := by
    intro i hi hne
    show (_ ++ os)[i]? = _
    rw [Array.getElem?_append_left (by simpa using hi)]
    show (w.heap.modify g _)[i]? = _
    rw [Array.getElem?_modify, if_neg (fun e => hne e.symm)]
   have hgn : (Go.Sort.grow (Go.Sort.putRow (Value.int .i64) (Go.Sort.ahead w q) g 0 (l0.mergeSort fun x y => decide (x ≤ y)).toArray) os).heap[g]? = some (.cells (Go.Sort.putCells (Value.int .i64) 0 (l0.mergeSort fun x y => decide (x ≤ y)).toArray cur) 3 (0, 0)) := by
    show (_ ++ os)[g]? = _
    rw [Array.getElem?_append_left (by simpa using hg)]
    show (w.heap.modify g _)[g]? = _
    rw [Array.getElem?_modify, if_pos rfl, hheap]; rfl
   have hsz2 : w.heap.size ≤ (Go.Sort.grow (Go.Sort.putRow (Value.int .i64) (Go.Sort.ahead w q) g 0 (l0.mergeSort fun x y => decide (x ≤ y)).toArray) os).heap.size := by simp
   refine ⟨rfl, ?_, ?_, ⟨hsz2, fun i hi hn => hw i hi (fun e => hn (e ▸ ho0.1 g rfl))⟩⟩; · refine Kd.R_of_own (enc := Value.int .i64) ⟨by simp [encs], .inr ⟨g, cap, _, by rw [hml], hbase, hgn, by rw [hml]; exact hncap, hcap, by simpa [Go.Sort.putCells] using hsize, ?_⟩⟩ (fun k hk => .inl (ho0.1 k hk)); have := slices_Sort_int_int.put (d := l0.mergeSort fun x y => decide (x ≤ y)) hml hncap hsize l0.length (Nat.le_refl _); rw [hml, this, ← hml, List.take_length]
   ·exact ⟨hB.os, hB.tape, hB.output, Nat.le_trans hB.size hsz2, fun i hi => (hw i (Nat.lt_of_lt_of_le hi hB.size) (by omega)).trans (hB.block i hi)⟩
 ·rw [if_neg hsz] at h
  cases h
/-! ### slices_Compact_int_int: function 46, by hand -/
def slices_Compact_int_int.f (l0 : List Int) : Option (List Int) := if l0.length ≤ 9223372036854775807 then some (Lib.compact l0) else none
theorem slices_Compact_int_int.cells {g cap : Nat} {cur : Array Value} {e : TypeId} {w : World} {l : List Int} (hb : w.heap[g]? = some (.cells cur e (0, 0))) (ht : cur.toList.take (l.length * 1) = encs (Value.int .i64) l) (hn : l.length ≤ cap) (hs : cur.size = cap * 1) : Go.Sort.Holds (Value.int .i64) w g 0 l.toArray := by
 intro j hj
 have hj2 : j < l.length := by simpa using hj
 refine ⟨?_, ?_⟩
 ·rw [Nat.zero_add]
  refine (blk_cell hb j).trans ?_
  have h1 : cur[j]? = (cur.toList.take (l.length * 1))[j]? := by
   rw [List.getElem?_take_of_lt (by omega), Array.getElem?_toList]
  rw [h1, ht]
  simp [encs, hj2]
 ·rw [Nat.zero_add]; exact blk_frozen hb j
theorem slices_Compact_int_int.put {cap : Nat} {cur : Array Value} {n : Nat} {d : List Int} (hd : d.length = n) (hn : n ≤ cap) (hs : cur.size = cap * 1) (m : Nat) (hm : m ≤ n) : (Go.Sort.putCells (Value.int .i64) 0 d.toArray cur).toList.take (m * 1) = encs (Value.int .i64) (d.take m) := by
 apply List.ext_getElem?
 intro k
 by_cases hk : k < m
 ·have h1 : k < cur.size := by omega
  have h2 : k < d.length := by omega
  rw [List.getElem?_take_of_lt (by omega)]
  simp [encs, Go.Sort.putCells, hk, h1, h2]
 ·rw [List.getElem?_eq_none (by simp; omega), List.getElem?_eq_none (by simp [encs]; omega)]
set_option maxHeartbeats 8000000 in
set_option maxRecDepth 100000 in
theorem slices_Compact_int_int.calls (P0_ : Nat → Prop) (u9000_ : Value) (l0 : List Int) (r1 : List Int) (w0 w : World) (hB : Below w0.heap.size w0 w) (ho0 : Kd.R (Kd.int .i64) 3 w w0.heap.size P0_ u9000_ l0) (h : slices_Compact_int_int.f l0 = some (r1)) :
  Calls Try.prog 46 #[u9000_] w fun e w' => ∃ v0_ : Value, e = .returned (v0_) ∧ Kd.R (Kd.int .i64) 3 w' w0.heap.size (fun k_ => (P0_ k_ ∨ w.heap.size ≤ k_)) v0_ r1 ∧ Below w0.heap.size w0 w' ∧ Kept w w' (fun k_ => P0_ k_) := by
 unfold slices_Compact_int_int.f at h
 by_cases hsz : l0.length ≤ 9223372036854775807
 ·rw [if_pos hsz] at h
  obtain rfl := Option.some.inj h; clear h; have ho := Kd.own_of_R ho0; obtain ⟨hlen, ⟨rfl, h0⟩ | ⟨g, cap, cur, rfl, hbase, hheap, hncap, hcap, hsize, htake⟩⟩ := ho; · have hnil : l0 = [] := List.eq_nil_of_length_eq_zero h0; subst hnil; refine (Go.Proofs.Try.slices_Compact_int_empty none 0 w).mono ?_; rintro e w' ⟨rfl, rfl⟩; exact ⟨_, rfl, Kd.R_nil _ _ _ _ _, hB, Kept.refl _ _⟩
  ·have hg : g < w.heap.size := blk_lt hheap
   refine (Go.Proofs.Try.slices_Compact_int g 0 cap l0 w (slices_Compact_int_int.cells hheap htake hncap hsize) hsz hncap).mono ?_; rintro e w' ⟨rfl, q, rfl⟩
   have hcl : (Lib.compact l0).length ≤ l0.length := by
    unfold Lib.compact Lib.compactUpTo
    rw [List.length_map]; exact Nat.le_trans (List.length_filter_le _ _) (by simp)
   obtain ⟨d, hd⟩ : ∃ d, d = Lib.compact l0 ++ List.replicate (l0.length - (Lib.compact l0).length) 0 := ⟨_, rfl⟩
   have hdl : d.length = l0.length := by rw [hd]; simp; omega
   rw [← hd]
   have hw : ∀ i, i ≠ g → (Go.Sort.putRow (Value.int .i64) (Go.Sort.ahead w q) g 0 d.toArray).heap[i]? = w.heap[i]? := by
    intro i hne
    show (w.heap.modify g _)[i]? = _
    rw [Array.getElem?_modify, if_neg (fun e => hne e.symm)]
   have hgn : (Go.Sort.putRow (Value.int .i64) (Go.Sort.ahead w q) g 0 d.toArray).heap[g]? = some (.cells (Go.Sort.putCells (Value.int .i64) 0 d.toArray cur) 3 (0, 0)) := by
    show (w.heap.modify g _)[g]? = _
    rw [Array.getElem?_modify, if_pos rfl, hheap]; rfl
   have hsz2 : w.heap.size ≤ (Go.Sort.putRow (Value.int .i64) (Go.Sort.ahead w q) g 0 d.toArray).heap.size := by simp
   refine ⟨_, rfl, ?_, ?_, ⟨hsz2, fun i hi hn => hw i (fun e => hn (e ▸ ho0.1 g rfl))⟩⟩
   ·refine Kd.R_of_own (enc := Value.int .i64) ⟨by simp [encs], .inr ⟨g, cap, _, rfl, hbase, hgn, Nat.le_trans hcl hncap, hcap, by simpa [Go.Sort.putCells] using hsize, ?_⟩⟩ (fun k hk => .inl (ho0.1 k hk))
    rw [slices_Compact_int_int.put hdl hncap hsize _ hcl, hd]
    simp
   ·exact ⟨hB.os, hB.tape, hB.output, Nat.le_trans hB.size hsz2, fun i hi => (hw i (by omega)).trans (hB.block i hi)⟩
 ·rw [if_neg hsz] at h
  cases h
/-! ### impl_GoodEntries: function 26, by hand -/
def impl_GoodEntries.g (k : Nat) (x : (S51)) : Option Bool := impl_GoodEntry.f k x.f0 x.f1 x.f2 x.f3.f0 x.f3.f1 x.f3.f2 x.f3.f3 x.f3.f4 x.f3.f5
def impl_GoodEntries.bf (k : Nat) (x y : (S51)) : Option Bool := (impl_compareEntries.f k x.f0 x.f1 x.f2 x.f3.f0 x.f3.f1 x.f3.f2 x.f3.f3 x.f3.f4 x.f3.f5 y.f0 y.f1 y.f2 y.f3.f0 y.f3.f1 y.f3.f2 y.f3.f3 y.f3.f4 y.f3.f5).bind fun c => some (decide (c < 0))
def impl_GoodEntries.ok (k : Nat) (l : List (S51)) (j : Nat) : Option Bool := (impl_GoodEntries.g k (rd_T51 l (j : Int))).bind fun t => if t = true then (if j = 0 then some true else impl_GoodEntries.bf k (rd_T51 l ((j - 1 : Nat) : Int)) (rd_T51 l (j : Int))) else some false
def impl_GoodEntries.fin (k : Nat) (s : List Int) : Option Bool := (slices_Sort_int_int.f s).bind fun t => (slices_Compact_int_int.f t).bind fun u => some ((u.length : Int) == (s.length : Int))
def impl_GoodEntries.scan (k : Nat) (l : List (S51)) : Nat → Nat → Option Bool
 | 0, _ => impl_GoodEntries.fin k (l.map fun x => x.f1)
 | d + 1, j => (impl_GoodEntries.ok k l j).bind fun t => if t = true then impl_GoodEntries.scan k l d (j + 1) else some false
def impl_GoodEntries.f (k : Nat) (l0 : List (S51)) : Option Bool := if l0.length ≤ 1048576 then impl_GoodEntries.scan k l0 l0.length 0 else none
theorem impl_GoodEntries.take {l : List (S51)} {j : Nat} (h : j < l.length) : (l.map fun x => x.f1).take j ++ [(rd_T51 l (j : Int)).f1] = (l.map fun x => x.f1).take (j + 1) := by
 rw [List.take_succ_eq_append_getElem (by simpa using h)]
 congr 2
 simp [rd_T51, h]
section
set_option maxHeartbeats 8000000 in
set_option maxRecDepth 100000 in
theorem impl_GoodEntries.calls (k : Nat) (A0_ : Option Addr) (c0 : Nat) (l0 : List (S51)) (r : Bool) (w : World) (hr0 : Kd.C k51 w A0_ l0.length l0) (hc0 : l0.length ≤ c0) (h : impl_GoodEntries.f k l0 = some r) :
  Calls Try.prog 26 #[.slice A0_ l0.length c0] w fun e w' => e = .returned (.bool r) ∧ Below w.heap.size w w' := by
 unfold impl_GoodEntries.f at h
 by_cases hl : l0.length ≤ 1048576
 case neg => rw [if_neg hl] at h; cases h
 rw [if_pos hl] at h
 have HR0 := Aside0.mk hr0
 have H := Aside0.mk h
 have HL := Aside0.mk hl
 have HB := A0 (Below.refl w.heap.size w)
 clear hr0 hc0 h hl
 go_enter Try.func26, Try.ntmps26
 go_wp2_with (first | ((with_reducible refine gate_dst (N := 6) rfl ?_); refine Kd.R_lit (Kd.int .i64) (w0 := w) w.heap.size 3 ?hg (N := 6) ?hd (xs := ([] : List Int)) (inner := []) (ok := fun _ => True) (okp := fun _ => True) ?hr ?hp (fun _ hk => hk) trivial (Below.refl _ _) (Nat.le_refl _) (by simp) ?_; (case hd => rfl); (case hg => rfl); (case hr => first | (go_simp; done) | (go_simp; rfl)); (case hp => exact (Reps.none _ _)); intro v6 w2 ho hb hg_ hnew_; obtain ⟨Az, cz, rfl⟩ := Kd.R_slice ho; have O := A0 ho; clear HB; have HB := A0 hb; clear ho hb hg_ hnew_))
 go_loopg [3, 9] l0.length (fun gg v3 v12 w' => ∃ (j c : Nat) (A : Option Addr) (q : List Int), j ≤ l0.length ∧ l0.length - j ≤ gg ∧ v3 = .slice A q.length c ∧ v12 = .int .i64 (j : Nat) ∧ Aside0 (q = (l0.map fun x => x.f1).take j) ∧ Aside0 (impl_GoodEntries.scan k l0 (l0.length - j) j = some r) ∧ Aside0 (Kd.R (Kd.int .i64) 3 w' w.heap.size (fun _ => True) v3 q) ∧ Aside0 (Below w.heap.size w w'))
 case atStart => exact ⟨0, cz, Az, [], by omega, by omega, rfl, rfl, ⟨by simp⟩, ⟨H.out⟩, ⟨O.out⟩, ⟨HB.out⟩⟩
 case round =>
  clear H HB; (try clear O); obtain ⟨j, c, A, q, hj, hg, rfl, rfl, HQ, HS, O, HB⟩ := hrel; have hl := HL.out; have hs := HS.out; clear HS
  by_cases hlt : j < l0.length
  ·rw [show l0.length - j = (l0.length - (j + 1)) + 1 by omega] at hs
   unfold impl_GoodEntries.scan at hs
   obtain ⟨t, ht, hs⟩ := Option.bind_eq_some_iff.mp hs
   unfold impl_GoodEntries.ok at ht
   obtain ⟨tg, htg, ht⟩ := Option.bind_eq_some_iff.mp ht; obtain ⟨ad, A7, c7, ead, hx0, hx1, hx2, hx3, hx4, hx5, hx6, hx7, hx8, hl7, hi7⟩ := at_T51B HR0.out HB.out (j : Int) (by omega) (by omega)
   cases ead
   rw [Int.toNat_natCast] at hx0 hx1 hx2 hx3 hx4 hx5 hx6 hx7 hx8; have hqn := impl_GoodEntries.take hlt; rw [← HQ.out] at hqn; have hqq := mK (show q.length = j by rw [HQ.out, List.length_take, List.length_map]; omega); generalize rd_T51 l0 (j : Int) = x at ht htg hqn hx0 hx1 hx2 hx3 hx4 hx5 hx6 hx7 hx8 hl7 hi7; replace hqn := Aside0.mk hqn; have HG := Aside0.mk htg; have HL7 := Aside0.mk hl7; have HI := Aside0.mk hi7; clear htg hl7 hi7
   have hjl : (j : Int) < (l0.length : Int) := by omega
   have hw2 : IntKind.i64.wrap ((j : Int) + 1) = (j : Int) + 1 := by rw [i64_w]; unfold wrap64; omega
   go_wp2_with (first | ((with_reducible refine gate_dst (N := 5) rfl ?_); (try (refine gate_guard (by rfl) ?_; dsimp only)); refine box_event ?hg (N := 5) ?hd (cs := #[.string (⟨#[]⟩ : ByteArray), .int .i64 0, .int .i64 0, .int .i64 0, .int .i64 0, .int .i64 0, .int .i64 0, .slice none 0 0, .bool false]) (t := 51) ?hr ?_; (case hd => rfl); (case hg => rfl); (case hr => first | (go_simp; done) | (go_simp; rfl)); intro gb hg_ w6 hbox hb; have O6 := A0 (Kd.R_below O.out hb); have HB6 := A0 (below_step HB.out hb); have GE := A0 (show w.heap.size ≤ gb by rw [hg_]; exact HB.out.size); have BK := A0 hbox; clear O HB hg_ hbox hb; obtain ⟨_, _, _, _, _, _, _, _, _⟩ := kc9 BK.out; obtain ⟨_, _, _, _, _, _, _, _, _⟩ := kf9 BK.out) | ((with_reducible refine gate_store (t := 51) (p := 5) rfl ?_); refine store_event (t := 51) (p := 5) (v := ?vo) (w1 := ((((((((w6.setCell ⟨gb, 0, none⟩ (.string x.f0)).setCell ⟨gb, 1, none⟩ (.int .i64 x.f1)).setCell ⟨gb, 2, none⟩ (.int .i64 x.f2)).setCell ⟨gb, 3, none⟩ (.int .i64 x.f3.f0)).setCell ⟨gb, 4, none⟩ (.int .i64 x.f3.f1)).setCell ⟨gb, 5, none⟩ (.int .i64 x.f3.f2)).setCell ⟨gb, 6, none⟩ (.int .i64 x.f3.f3)).setCell ⟨gb, 7, none⟩ (.slice A7 x.f3.f4.length c7)).setCell ⟨gb, 8, none⟩ (.bool x.f3.f5)) ?hg ?ho ?hn ?hr ?_; (case ho => rfl); (case hg => rfl); (case hn => rfl); (case hr => first | (go_simp; done) | (go_simp; rfl)); intro w7 hw; have O7 := A0 (show Kd.R (Kd.int .i64) 3 w7 w.heap.size (fun _ => True) (.slice A q.length c) q by rw [hw]; exact On.nine.Rt O6.out BK.out (by decide)); have HB7 := A0 (show Below w.heap.size w w7 by rw [hw]; exact On.nine.below HB6.out GE.out); have BK7 := A0 (show w7.heap[gb]? = some (.cells #[.string x.f0, .int .i64 x.f1, .int .i64 x.f2, .int .i64 x.f3.f0, .int .i64 x.f3.f1, .int .i64 x.f3.f2, .int .i64 x.f3.f3, .slice A7 x.f3.f4.length c7, .bool x.f3.f5] 51 (0, 0)) by rw [hw]; exact p9 BK.out); clear O6 HB6 BK hw))
   have cx := Later.nine BK7.out; obtain ⟨cx0, cx1, cx2, cx3, cx4, cx5, cx6, cx7, cx8⟩ := cx
   cases tg with
   | false =>
    rw [if_neg (by simp)] at ht; obtain rfl := Option.some.inj ht; rw [if_neg (by simp)] at hs; obtain rfl := Option.some.inj hs; (refine quietLater (by kernel_rfl) (by kernel_rfl) ?_; (repeat (go_big_quiet_step (first | (go_at_call 43; rename_i n; exact Later.call (impl_GoodEntry.calls k x.f0 x.f1 x.f2 x.f3.f0 x.f3.f1 x.f3.f2 x.f3.f3 _ _ x.f3.f4 x.f3.f5 _ _ (Kd.C_below HI.out (below_step HB7.out n.bel)) HL7.out HG.out)) | (go_at_call 44; rename_i n; exact Later.call (impl_compareEntries.calls k y.f0 y.f1 y.f2 y.f3.f0 y.f3.f1 y.f3.f2 y.f3.f3 _ _ y.f3.f4 y.f3.f5 x.f0 x.f1 x.f2 x.f3.f0 x.f3.f1 x.f3.f2 x.f3.f3 _ _ x.f3.f4 x.f3.f5 _ _ (Kd.C_below HJ.out (below_step HB7.out n.bel)) HM7.out (Kd.C_below HI.out (below_step HB7.out n.bel)) HL7.out HBF.out))))); refine wpQuiet_nil ?_; intro _ hw_; obtain ⟨nq, rfl⟩ := hw_; have O := A0 (Kd.R_below O7.out nq.bel); have HB := A0 (below_step HB7.out nq.bel); have BK := A0 (blk_below BK7.out nq.bel); clear O7 HB7 BK7; obtain ⟨_, _, _, _, _, _, _, _, _⟩ := kc9 BK.out)
    go_wp2
    go_ret
    exact ⟨rfl, HB.out⟩
   | true =>
    rw [if_pos rfl] at ht
    by_cases hj0 : j = 0
    ·rw [if_pos hj0] at ht
     obtain rfl := Option.some.inj ht; rw [if_pos rfl] at hs; have hjb : decide (0 < j) = false := decide_eq_false (by omega); clear hj0; (refine quietLater (by kernel_rfl) (by kernel_rfl) ?_; (repeat (go_big_quiet_step (first | (go_at_call 43; rename_i n; exact Later.call (impl_GoodEntry.calls k x.f0 x.f1 x.f2 x.f3.f0 x.f3.f1 x.f3.f2 x.f3.f3 _ _ x.f3.f4 x.f3.f5 _ _ (Kd.C_below HI.out (below_step HB7.out n.bel)) HL7.out HG.out)) | (go_at_call 44; rename_i n; exact Later.call (impl_compareEntries.calls k y.f0 y.f1 y.f2 y.f3.f0 y.f3.f1 y.f3.f2 y.f3.f3 _ _ y.f3.f4 y.f3.f5 x.f0 x.f1 x.f2 x.f3.f0 x.f3.f1 x.f3.f2 x.f3.f3 _ _ x.f3.f4 x.f3.f5 _ _ (Kd.C_below HJ.out (below_step HB7.out n.bel)) HM7.out (Kd.C_below HI.out (below_step HB7.out n.bel)) HL7.out HBF.out))))); refine wpQuiet_nil ?_; intro _ hw_; obtain ⟨nq, rfl⟩ := hw_; have O := A0 (Kd.R_below O7.out nq.bel); have HB := A0 (below_step HB7.out nq.bel); have BK := A0 (blk_below BK7.out nq.bel); clear O7 HB7 BK7; obtain ⟨_, _, _, _, _, _, _, _, _⟩ := kc9 BK.out)
     go_wp2_with (first | ((with_reducible refine gate_builtin (b := .append) (xs := #[.tmp 31, .tmp 34]) rfl ?_); at_builtin; refine Kd.R_append (Kd.int .i64) (w0 := w) w.heap.size rfl (.tmp 31) (.tmp 34) 41 3 (.int .i64 0) 8 rfl Try.underlying41 info3 rfl (by decide) (by omega) (.slice A q.length c) q x.f1 [.int .i64 x.f1] (fun _ => True) (fun _ => False) rfl rfl ?aP (fun _ hk => hk.elim) ?aF ?aO ?aB ?aS ?aL ?_; (case aP => exact rfl); (case aB => exact HB.out); (case aF => exact (fun _ _ => trivial)); (case aO => exact O.out); (case aS => exact HB.out.size); (case aL => have h_ := hqq.out; omega); intro v20 w21 ho hb hg_ hat; clear O HB; have O := A0 ho; have HB := A0 hb; clear ho hb hg_ hat))
     obtain ⟨A2, c2_, e2_⟩ := Kd.R_slice O.out; subst e2_
     go_roundg (l0.length - (j + 1))
     case measure => omega
     case rel => exact ⟨j + 1, c2_, A2, _, by omega, by omega, rfl, (by (try rw [hw2]); congr 1), ⟨hqn.out⟩, ⟨hs⟩, ⟨O.out⟩, ⟨HB.out⟩⟩
    ·rw [if_neg hj0] at ht
     have hjb : decide (0 < j) = true := decide_eq_true (by omega)
     have hw1 : IntKind.i64.wrap ((j : Int) - 1) = ((j - 1 : Nat) : Int) := by rw [i64_w]; unfold wrap64; omega
     have hjp : j - 1 < l0.length := by omega
     obtain ⟨ad2, B7, d7, ead2, hy0, hy1, hy2, hy3, hy4, hy5, hy6, hy7, hy8, hm7, hj7⟩ := at_T51 HR0.out ((j - 1 : Nat) : Int) (by omega) (by omega); obtain rfl : ad = ad2 := (by injection ead2); rw [Int.toNat_natCast] at hy0 hy1 hy2 hy3 hy4 hy5 hy6 hy7 hy8; generalize rd_T51 l0 ((j - 1 : Nat) : Int) = y at ht hy0 hy1 hy2 hy3 hy4 hy5 hy6 hy7 hy8 hm7 hj7; have HM7 := Aside0.mk hm7; have HJ := Aside0.mk hj7; clear hm7 hj7
     unfold impl_GoodEntries.bf at ht
     obtain ⟨cv, hcv, ht⟩ := Option.bind_eq_some_iff.mp ht; have HBF := Aside0.mk hcv; have ht := Option.some.inj ht; subst ht; clear hcv
     by_cases hc0 : cv < 0
     ·rw [if_pos (decide_eq_true hc0)] at hs
      have hcb : decide (0 ≤ cv) = false := decide_eq_false (by omega)
      have cy0 := Later.cell HB7.out hy0; have cy1 := Later.cell HB7.out hy1; have cy2 := Later.cell HB7.out hy2; have cy3 := Later.cell HB7.out hy3; have cy4 := Later.cell HB7.out hy4; have cy5 := Later.cell HB7.out hy5; have cy6 := Later.cell HB7.out hy6; have cy7 := Later.cell HB7.out hy7; have cy8 := Later.cell HB7.out hy8
      (refine quietLater (by kernel_rfl) (by kernel_rfl) ?_; (repeat (go_big_quiet_step (first | (go_at_call 43; rename_i n; exact Later.call (impl_GoodEntry.calls k x.f0 x.f1 x.f2 x.f3.f0 x.f3.f1 x.f3.f2 x.f3.f3 _ _ x.f3.f4 x.f3.f5 _ _ (Kd.C_below HI.out (below_step HB7.out n.bel)) HL7.out HG.out)) | (go_at_call 44; rename_i n; exact Later.call (impl_compareEntries.calls k y.f0 y.f1 y.f2 y.f3.f0 y.f3.f1 y.f3.f2 y.f3.f3 _ _ y.f3.f4 y.f3.f5 x.f0 x.f1 x.f2 x.f3.f0 x.f3.f1 x.f3.f2 x.f3.f3 _ _ x.f3.f4 x.f3.f5 _ _ (Kd.C_below HJ.out (below_step HB7.out n.bel)) HM7.out (Kd.C_below HI.out (below_step HB7.out n.bel)) HL7.out HBF.out))))); refine wpQuiet_nil ?_; intro _ hw_; obtain ⟨nq, rfl⟩ := hw_; have O := A0 (Kd.R_below O7.out nq.bel); have HB := A0 (below_step HB7.out nq.bel); have BK := A0 (blk_below BK7.out nq.bel); clear O7 HB7 BK7; obtain ⟨_, _, _, _, _, _, _, _, _⟩ := kc9 BK.out)
      go_wp2_with (first | ((with_reducible refine gate_builtin (b := .append) (xs := #[.tmp 31, .tmp 34]) rfl ?_); at_builtin; refine Kd.R_append (Kd.int .i64) (w0 := w) w.heap.size rfl (.tmp 31) (.tmp 34) 41 3 (.int .i64 0) 8 rfl Try.underlying41 info3 rfl (by decide) (by omega) (.slice A q.length c) q x.f1 [.int .i64 x.f1] (fun _ => True) (fun _ => False) rfl rfl ?aP (fun _ hk => hk.elim) ?aF ?aO ?aB ?aS ?aL ?_; (case aP => exact rfl); (case aB => exact HB.out); (case aF => exact (fun _ _ => trivial)); (case aO => exact O.out); (case aS => exact HB.out.size); (case aL => have h_ := hqq.out; omega); intro v20 w21 ho hb hg_ hat; clear O HB; have O := A0 ho; have HB := A0 hb; clear ho hb hg_ hat))
      obtain ⟨A2, c2_, e2_⟩ := Kd.R_slice O.out; subst e2_
      go_roundg (l0.length - (j + 1))
      case measure => omega
      case rel => exact ⟨j + 1, c2_, A2, _, by omega, by omega, rfl, (by (try rw [hw2]); congr 1), ⟨hqn.out⟩, ⟨hs⟩, ⟨O.out⟩, ⟨HB.out⟩⟩
     ·rw [if_neg (by simpa using hc0)] at hs
      obtain rfl := Option.some.inj hs; have hcb : decide (0 ≤ cv) = true := decide_eq_true (by omega)
      have cy0 := Later.cell HB7.out hy0; have cy1 := Later.cell HB7.out hy1; have cy2 := Later.cell HB7.out hy2; have cy3 := Later.cell HB7.out hy3; have cy4 := Later.cell HB7.out hy4; have cy5 := Later.cell HB7.out hy5; have cy6 := Later.cell HB7.out hy6; have cy7 := Later.cell HB7.out hy7; have cy8 := Later.cell HB7.out hy8
      (refine quietLater (by kernel_rfl) (by kernel_rfl) ?_; (repeat (go_big_quiet_step (first | (go_at_call 43; rename_i n; exact Later.call (impl_GoodEntry.calls k x.f0 x.f1 x.f2 x.f3.f0 x.f3.f1 x.f3.f2 x.f3.f3 _ _ x.f3.f4 x.f3.f5 _ _ (Kd.C_below HI.out (below_step HB7.out n.bel)) HL7.out HG.out)) | (go_at_call 44; rename_i n; exact Later.call (impl_compareEntries.calls k y.f0 y.f1 y.f2 y.f3.f0 y.f3.f1 y.f3.f2 y.f3.f3 _ _ y.f3.f4 y.f3.f5 x.f0 x.f1 x.f2 x.f3.f0 x.f3.f1 x.f3.f2 x.f3.f3 _ _ x.f3.f4 x.f3.f5 _ _ (Kd.C_below HJ.out (below_step HB7.out n.bel)) HM7.out (Kd.C_below HI.out (below_step HB7.out n.bel)) HL7.out HBF.out))))); refine wpQuiet_nil ?_; intro _ hw_; obtain ⟨nq, rfl⟩ := hw_; have O := A0 (Kd.R_below O7.out nq.bel); have HB := A0 (below_step HB7.out nq.bel); have BK := A0 (blk_below BK7.out nq.bel); clear O7 HB7 BK7; obtain ⟨_, _, _, _, _, _, _, _, _⟩ := kc9 BK.out)
      go_wp2
      go_ret
      exact ⟨rfl, HB.out⟩
  ·obtain rfl : j = l0.length := by omega
   rw [Nat.sub_self] at hs
   unfold impl_GoodEntries.scan impl_GoodEntries.fin at hs
   have hq0 := HQ.out; rw [List.take_of_length_le (by simp)] at hq0; replace HQ := Aside0.mk hq0
   have hqb : q.length ≤ 1048576 := by rw [hq0, List.length_map]; exact hl
   clear hq0 hlt hj hg; rw [← HQ.out] at hs; obtain ⟨t1, ht1, hs⟩ := Option.bind_eq_some_iff.mp hs; obtain ⟨u1, hu1, hs⟩ := Option.bind_eq_some_iff.mp hs; have hr := Option.some.inj hs; have hql := mK (show q.length = l0.length by rw [HQ.out]; simp); have HT := Aside0.mk ht1; have HU := Aside0.mk hu1; have HRR := Aside0.mk hr; clear ht1 hu1 hs hr HQ
   go_wp2_with (first | (go_at_call 45; (with_reducible refine (slices_Sort_int_int.calls _ _ q t1 w _ HB.out O.out HT.out).mono ?_); rintro e w9 ⟨rfl, ho, hb, hk⟩; clear O HB; have O := A0 ho; have HB := A0 hb; clear ho hb hk) | (go_at_call 46; (with_reducible refine (slices_Compact_int_int.calls _ _ t1 u1 w _ HB.out O.out HU.out).mono ?_); rintro e w10 ⟨v10, rfl, ho, hb, hk⟩; obtain ⟨A10, c10, rfl⟩ := Kd.R_slice ho; clear O HB; have HB := A0 hb; clear ho hb hk))
   go_ret
   rw [← HRR.out, hql.out]; exact ⟨rfl, HB.out⟩
end
-- left out: function 47 (impl_Entry), told beside impl.table
/-! ### impl_PutVar: function 50 -/
def impl_PutVar.l0 : Nat → Int → List Int → Option (List Int)
 | 0, _, _ => none
 | k + 1, x0, x3 => if x0 > 127 then (if x3.length < 140737488355328 then (impl_PutVar.l0 k (x0 / 128) (x3 ++ [Go.bits .or .u8 ((x0) % 256) 128])) else (none)) else (if x3.length < 140737488355328 then (some (x3 ++ [(x0) % 256])) else (none))
def impl_PutVar.f (k : Nat) (a0 : Int) : Option (List Int) := impl_PutVar.l0 k a0 (([] : List Int))
set_option maxHeartbeats 8000000 in
set_option maxRecDepth 100000 in
theorem impl_PutVar.calls (k : Nat) (a0 : Int) (r : List Int) (w : World) (h : impl_PutVar.f k a0 = some r) :
  Calls Try.prog 50 #[.int .u64 a0] w fun e w' => ∃ v0_ : Value, e = .returned (v0_) ∧ Kd.R (Kd.int .u8) 5 w' w.heap.size (fun _ => True) v0_ r ∧ Below w.heap.size w w' := by
 have HB := mK (Below.refl w.heap.size w)
 have H : (impl_PutVar.l0 k a0 (([] : List Int))) = some r := h
 clear h
 obtain ⟨y218, hy218⟩ : ∃ y_ : List Int, y_ = (([] : List Int)) := ⟨_, rfl⟩
 replace H : (impl_PutVar.l0 k a0 y218) = some r := by first | (rw [hy218]; with_reducible exact H) | (have H2_ := (Option.bind_some _ _).symm.trans H; rw [hy218]; with_reducible exact H2_) | (have H2_ := (Option.bind_some _ _).symm.trans H; with_reducible exact H2_) | with_reducible exact H | (rw [hy218]; exact H) | exact H
 have Ny218 := Aside0.mk hy218
 clear hy218
 have H' := Aside0.mk H
 clear H
 go_enter Try.func50, Try.ntmps50
 go_wp2_with (first | ((with_reducible refine gate_dst (N := 4) rfl ?_); refine Kd.R_lit (Kd.int .u8) _ 5 ?hg (N := 4) ?hd (xs := ([] : List Int)) (inner := []) (ok := fun _ => True) (okp := fun _ => True) ?hr ?hp (fun _ hk => hk) trivial (Below.refl _ _) (Nat.le_refl _) (by simp) ?_; (case hd => rfl); (case hg => rfl); (case hr => first | (go_simp; done) | (go_simp; rfl)); (case hp => exact (Reps.none _ _)); intro v219 w2 ho3 hb hg_ hnew_; clear hg_ hnew_; (first | rw [← Ny218.out] at ho3 | (simp only [Int.reduceToNat] at ho3; rw [← Ny218.out] at ho3)); have _ := mK (Kd.R_lower ho3 (below_size (bL HB.out))); have _ := mK (below_step (bL HB.out) hb); clear HB; rename_i HO220 HB; clear hb ho3))
 go_loopg [0, 3] k (fun kq v0 v3 w' => ∃ (x0_1 : Int) (x3_1 : List Int), v0 = .int .u64 x0_1 ∧ Aside0 (impl_PutVar.l0 kq x0_1 x3_1 = some r) ∧ Aside0 (kq ≤ k) ∧ Aside0 (Kd.R (Kd.int .u8) 5 w' w.heap.size (fun _ => True) v3 x3_1) ∧ Aside0 (Below w.heap.size w w'))
 case atStart => exact ⟨(a0), (y218), sE, H', ⟨Nat.le_refl _⟩, ⟨rK HO220.out⟩, ⟨bL HB.out⟩⟩
 case round =>
  clear H'
  try clear p2
  obtain ⟨x0_1, x3_1, rfl, HA, HK1, HO_3, HB⟩ := hrel
  cases gk with
  | zero => exact absurd HA.out (by simp [impl_PutVar.l0])
  | succ k1 =>
   have H := HA.out; clear HA; simp only [impl_PutVar.l0] at H
   by_cases c4 : x0_1 > 127
   ·rw [if_pos c4] at H
    have c4b0 : decide (127 < x0_1) = true := decide_eq_true c4; clear c4
    by_cases c5 : x3_1.length < 140737488355328
    ·rw [if_pos c5] at H
     have LMc5 := Aside0.mk c5; clear c5; obtain ⟨y221, hy221⟩ : ∃ y_ : List Int, y_ = (x3_1 ++ [Go.bits .or .u8 ((x0_1) % 256) 128]) := ⟨_, rfl⟩
     replace H : (impl_PutVar.l0 k1 (x0_1 / 128) y221) = some r := by first | (rw [hy221]; with_reducible exact H) | (have H2_ := (Option.bind_some _ _).symm.trans H; rw [hy221]; with_reducible exact H2_) | (have H2_ := (Option.bind_some _ _).symm.trans H; with_reducible exact H2_) | with_reducible exact H | (rw [hy221]; exact H) | exact H
     have Ny221 := Aside0.mk hy221; clear hy221; have H' := Aside0.mk H; clear H
     go_wp2_with (first | ((with_reducible refine gate_builtin (b := .append) (xs := #[.tmp 7, .tmp 11]) rfl ?_); at_builtin; refine Kd.R_append (Kd.int .u8) (w0 := w) w.heap.size rfl (.tmp 7) (.tmp 11) 24 5 (.int .u8 0) 1 rfl Try.underlying24 info5 rfl (by decide) (by omega) u3 x3_1 (Go.bits .or .u8 ((x0_1) % 256) 128) [.int .u8 (Go.bits .or .u8 ((x0_1) % 256) 128)] (fun _ => True) (fun _ => False) rfl rfl ?aP (fun _ hk => hk.elim) ?aF ?aO ?aB ?aS ?aL ?_; (case aP => exact rfl); (case aB => exact (bL HB.out)); (case aF => exact (fun _ _ => trivial)); (case aO => exact (rK HO_3.out)); (case aS => exact (below_size (bL HB.out))); (case aL => have := LMc5.out; omega); intro v222 w6 ho hb hg hat; rw [← Ny221.out] at ho; have _ := mK (hb); have _ := mK (ho); clear HB HO_3; rename_i HB HO223; clear ho hb hg hat))
     go_roundg k1
     case measure => have := HK1.out; omega
     case rel => exact ⟨(x0_1 / 128), (y221), sE, H', ⟨by have := HK1.out; omega⟩, ⟨rK HO223.out⟩, ⟨bL HB.out⟩⟩
    ·rw [if_neg c5] at H; exact absurd H (by simp)
   ·rw [if_neg c4] at H
    have c4b0 : decide (127 < x0_1) = false := decide_eq_false c4; clear c4
    by_cases c7 : x3_1.length < 140737488355328
    ·rw [if_pos c7] at H
     have LMc7 := Aside0.mk c7; clear c7; obtain ⟨y224, hy224⟩ : ∃ y_ : List Int, y_ = (x3_1 ++ [(x0_1) % 256]) := ⟨_, rfl⟩
     replace H : (some y224) = some r := by first | (rw [hy224]; with_reducible exact H) | (have H2_ := (Option.bind_some _ _).symm.trans H; rw [hy224]; with_reducible exact H2_) | (have H2_ := (Option.bind_some _ _).symm.trans H; with_reducible exact H2_) | with_reducible exact H | (rw [hy224]; exact H) | exact H
     have Ny224 := Aside0.mk hy224; clear hy224; obtain rfl := Option.some.inj H
     go_wp2_with (first | ((with_reducible refine gate_builtin (b := .append) (xs := #[.tmp 15, .tmp 18]) rfl ?_); at_builtin; refine Kd.R_append (Kd.int .u8) (w0 := w) w.heap.size rfl (.tmp 15) (.tmp 18) 24 5 (.int .u8 0) 1 rfl Try.underlying24 info5 rfl (by decide) (by omega) u3 x3_1 ((x0_1) % 256) [.int .u8 ((x0_1) % 256)] (fun _ => True) (fun _ => False) rfl rfl ?aP (fun _ hk => hk.elim) ?aF ?aO ?aB ?aS ?aL ?_; (case aP => exact rfl); (case aB => exact (bL HB.out)); (case aF => exact (fun _ _ => trivial)); (case aO => exact (rK HO_3.out)); (case aS => exact (below_size (bL HB.out))); (case aL => have := LMc7.out; omega); intro v225 w8 ho hb hg hat; rw [← Ny224.out] at ho; have _ := mK (hb); have _ := mK (ho); clear HB HO_3; rename_i HB HO226; clear ho hb hg hat))
     go_ret
     exact ⟨_, sE, rK HO226.out, bL HB.out⟩
    ·rw [if_neg c7] at H; exact absurd H (by simp)
/-! ### impl_shared: function 78 -/
def impl_shared.l0 : Nat → ByteArray → ByteArray → Int → Option (Int)
 | 0, _, _, _ => none
 | k + 1, x0, x1, x5 => if x5 < (mn (x0.size : Int) (x1.size : Int)) then (if 0 ≤ x5 then (if x5 < (x0.size : Int) then (if x5 < (x1.size : Int) then (if (bt x0 x5) = (bt x1 x5) then (impl_shared.l0 k x0 x1 (wrap64 (x5 + 1))) else (some x5)) else (none)) else (none)) else (none)) else (some x5)
def impl_shared.f (k : Nat) (a0 : ByteArray) (a1 : ByteArray) : Option (Int) := impl_shared.l0 k a0 a1 0
set_option maxHeartbeats 8000000 in
set_option maxRecDepth 100000 in
theorem impl_shared.calls (k : Nat) (a0 : ByteArray) (a1 : ByteArray) (r : Int) (w : World) (h : impl_shared.f k a0 a1 = some r) :
  Calls Try.prog 78 #[.string a0, .string a1] w fun e w' => e = .returned (.int .i64 r) ∧ Below w.heap.size w w' := by
 have HB := mK (Below.refl w.heap.size w)
 have H : (impl_shared.l0 k a0 a1 0) = some r := h
 clear h
 have H' := Aside0.mk H
 clear H
 go_enter Try.func78, Try.ntmps78
 go_wp2
 repeat (go_quiet (fail); try go_wp2)
 go_loopg [5] k (fun kq v5 w' => ∃ (x5_1 : Int), v5 = .int .i64 x5_1 ∧ Aside0 (impl_shared.l0 kq a0 a1 x5_1 = some r) ∧ Aside0 (kq ≤ k) ∧ Aside0 (Below w.heap.size w w'))
 case atStart => exact ⟨(0), sE, H', ⟨Nat.le_refl _⟩, ⟨bL HB.out⟩⟩
 case round =>
  clear H'
  try clear p2
  obtain ⟨x5_1, rfl, HA, HK1, HB⟩ := hrel
  cases gk with
  | zero => exact absurd HA.out (by simp [impl_shared.l0])
  | succ k1 =>
   have H := HA.out; clear HA; simp only [impl_shared.l0] at H; obtain ⟨ji3, hji3⟩ : ∃ j_ : Int, (mn (a0.size : Int) (a1.size : Int)) = j_ := ⟨_, rfl⟩
   replace H : (if x5_1 < (ji3) then (if 0 ≤ x5_1 then (if x5_1 < (a0.size : Int) then (if x5_1 < (a1.size : Int) then (if (bt a0 x5_1) = (bt a1 x5_1) then (impl_shared.l0 k1 a0 a1 (wrap64 (x5_1 + 1))) else (some x5_1)) else (none)) else (none)) else (none)) else (some x5_1)) = some r := by first | (rw [hji3] at H; exact H) | (simp only [hji3] at H ⊢; exact H)
   have hji3_ : (if (a1.size : Int) < (a0.size : Int) then (a1.size : Int) else (a0.size : Int)) = ji3 := hji3
   have hji3n : (if a1.size < a0.size then (a1.size : Int) else (a0.size : Int)) = ji3 := by rw [← hji3_]; simp
   by_cases c4 : x5_1 < (ji3)
   ·rw [if_pos c4] at H
    have c4b0 : decide (x5_1 < (ji3)) = true := decide_eq_true c4; clear c4
    by_cases c5 : 0 ≤ x5_1
    ·rw [if_pos c5] at H
     have c5b0 : decide (0 ≤ x5_1) = true := decide_eq_true c5; clear c5
     by_cases c6 : x5_1 < (a0.size : Int)
     ·rw [if_pos c6] at H
      have c6b0 : decide (x5_1 < (a0.size : Int)) = true := decide_eq_true c6; clear c6
      by_cases c8 : x5_1 < (a1.size : Int)
      ·rw [if_pos c8] at H
       have c8b0 : decide (x5_1 < (a1.size : Int)) = true := decide_eq_true c8; clear c8
       by_cases c10 : (bt a0 x5_1) = (bt a1 x5_1)
       ·rw [if_pos c10] at H
        have c10b0 : ((bt a0 x5_1) == (bt a1 x5_1)) = true := beq_iff_eq.mpr c10; have c10b1 : ((bt a0 x5_1) != (bt a1 x5_1)) = false := bne_eq_false_iff_eq.mpr c10; clear c10; have H' := Aside0.mk H; clear H; have p7 : 0 ≤ (x5_1 : Int) := oD; have q7 : x5_1 < (a0.size : Int) := oD; have hx7 := bt_at a0 x5_1; replace p7 := eq_true p7; replace q7 := eq_true q7; have p9 : 0 ≤ (x5_1 : Int) := oD; have q9 : x5_1 < (a1.size : Int) := oD; have hx9 := bt_at a1 x5_1; replace p9 := eq_true p9; replace q9 := eq_true q9
        go_wp2
        repeat (go_quiet (fail); try go_wp2)
        go_roundg k1
        case measure => have := HK1.out; omega
        case rel => exact ⟨(wrap64 (x5_1 + 1)), sE, H', ⟨by have := HK1.out; omega⟩, ⟨bL HB.out⟩⟩
       ·rw [if_neg c10] at H
        have c10b0 : ((bt a0 x5_1) == (bt a1 x5_1)) = false := beq_eq_false_iff_ne.mpr c10; have c10b1 : ((bt a0 x5_1) != (bt a1 x5_1)) = true := bne_iff_ne.mpr c10; obtain rfl := Option.some.inj H; have p7 : 0 ≤ (x5_1 : Int) := oD; have q7 : x5_1 < (a0.size : Int) := oD; have hx7 := bt_at a0 x5_1; replace p7 := eq_true p7; replace q7 := eq_true q7; have p9 : 0 ≤ (x5_1 : Int) := oD; have q9 : x5_1 < (a1.size : Int) := oD; have hx9 := bt_at a1 x5_1; replace p9 := eq_true p9; replace q9 := eq_true q9
        go_wp2
        repeat (go_quiet (fail); try go_wp2)
        go_ret
        exact ⟨by first | rfl | (simp [errW_none, errW_some] <;> rfl) | (simp only [← hji3]; first | rfl | (simp [errW_none, errW_some] <;> rfl)) | (simp [*, errW_none, errW_some] <;> rfl), bL HB.out⟩
      ·rw [if_neg c8] at H; exact absurd H (by simp)
     ·rw [if_neg c6] at H; exact absurd H (by simp)
    ·rw [if_neg c5] at H; exact absurd H (by simp)
   ·rw [if_neg c4] at H
    have c4b0 : decide (x5_1 < (ji3)) = false := decide_eq_false c4; clear c4; obtain rfl := Option.some.inj H
    go_wp2
    repeat (go_quiet (fail); try go_wp2)
    go_ret
    exact ⟨by first | rfl | (simp [errW_none, errW_some] <;> rfl) | (simp only [← hji3]; first | rfl | (simp [errW_none, errW_some] <;> rfl)) | (simp [*, errW_none, errW_some] <;> rfl), bL HB.out⟩
/-! ### impl_Agg_numbers: function 110 -/
def impl_Agg_numbers.f (a0_0 : Int) (a0_1 : Int) (a0_2 : Int) (a0_3 : Int) (l0_4 : List Int) (a0_5 : Bool) : Option (List Int) := (some (([a0_0, a0_1, a0_2, a0_3] : List Int) : List Int)).bind fun y228 => (if y228.length + l0_4.length < 17592186044416 then (some (y228 ++ l0_4)) else (none))
set_option maxHeartbeats 8000000 in
set_option maxRecDepth 100000 in
theorem impl_Agg_numbers.calls (a0_0 : Int) (a0_1 : Int) (a0_2 : Int) (a0_3 : Int) (A0_4 : Option Addr) (c0_4 : Nat) (l0_4 : List Int) (a0_5 : Bool) (r : List Int) (w : World) (hr0_4 : Kd.C (Kd.int .i64) w A0_4 l0_4.length l0_4) (hc0_4 : l0_4.length ≤ c0_4) (h : impl_Agg_numbers.f a0_0 a0_1 a0_2 a0_3 l0_4 a0_5 = some r) :
  Calls Try.prog 110 #[.agg #[.int .i64 a0_0, .int .i64 a0_1, .int .i64 a0_2, .int .i64 a0_3, .slice A0_4 l0_4.length c0_4, .bool a0_5]] w fun e w' => ∃ v0_ : Value, e = .returned (v0_) ∧ Kd.R (Kd.int .i64) 3 w' w.heap.size (fun _ => True) v0_ r ∧ Below w.heap.size w w' := by
 have hu49 := Try.underlying49
 have HR0_4 := Aside0.mk hr0_4
 have HC0_4 := Aside0.mk hc0_4
 clear hr0_4 hc0_4
 have HB := mK (Below.refl w.heap.size w)
 have H : ((some (([a0_0, a0_1, a0_2, a0_3] : List Int) : List Int)).bind fun y228 => (if y228.length + l0_4.length < 17592186044416 then (some (y228 ++ l0_4)) else (none))) = some r := h
 clear h
 obtain ⟨y228, hy228⟩ : ∃ y_ : List Int, y_ = (([a0_0, a0_1, a0_2, a0_3] : List Int)) := ⟨_, rfl⟩
 replace H : (if y228.length + l0_4.length < 17592186044416 then (some (y228 ++ l0_4)) else (none)) = some r := by first | (rw [hy228]; with_reducible exact H) | (have H2_ := (Option.bind_some _ _).symm.trans H; rw [hy228]; with_reducible exact H2_) | (have H2_ := (Option.bind_some _ _).symm.trans H; with_reducible exact H2_) | with_reducible exact H | (rw [hy228]; exact H) | exact H
 have Ny228 := Aside0.mk hy228
 clear hy228
 by_cases c2 : y228.length + l0_4.length < 17592186044416
 ·rw [if_pos c2] at H
  have LMc2 := Aside0.mk c2; clear c2; obtain ⟨y231, hy231⟩ : ∃ y_ : List Int, y_ = (y228 ++ l0_4) := ⟨_, rfl⟩
  replace H : (some y231) = some r := by first | (rw [hy231]; with_reducible exact H) | (have H2_ := (Option.bind_some _ _).symm.trans H; rw [hy231]; with_reducible exact H2_) | (have H2_ := (Option.bind_some _ _).symm.trans H; with_reducible exact H2_) | with_reducible exact H | (rw [hy231]; exact H) | exact H
  have Ny231 := Aside0.mk hy231; clear hy231; obtain rfl := Option.some.inj H
  go_enter Try.func110, Try.ntmps110
  go_wp2_with (first | ((with_reducible refine gate_dst (N := 1) rfl ?_); refine box_event ?hg (N := 1) ?hd (cs := #[.int .i64 a0_0, .int .i64 a0_1, .int .i64 a0_2, .int .i64 a0_3, .slice A0_4 l0_4.length c0_4, .bool a0_5]) (t := 49) ?hr ?_; (case hd => rfl); (case hg => rfl); (case hr => first | (go_simp; done) | (go_simp; rfl)); intro gb227 hg w3 hbox hb; have _ := mK (below_step (bL HB.out) hb); have _ := mK (hbox); have _ := mK (sL hg (bL HB.out)); clear HB; rename_i HB BK227 GE227; clear hb hbox hg; obtain ⟨_, _, _, _, _, _⟩ := kc6 BK227.out; obtain ⟨_, _, _, _, _, _⟩ := kf6 BK227.out) | ((with_reducible refine gate_dst (N := 11) rfl ?_); refine Kd.R_lit (Kd.int .i64) _ 3 ?hg (N := 11) ?hd (xs := ([a0_0, a0_1, a0_2, a0_3] : List Int)) (inner := [.int .i64 a0_0, .int .i64 a0_1, .int .i64 a0_2, .int .i64 a0_3]) (ok := fun _ => True) (okp := fun _ => True) ?hr ?hp (fun _ hk => hk) trivial (Below.refl _ _) (Nat.le_refl _) (by simp) ?_; (case hd => rfl); (case hg => rfl); (case hr => first | (go_simp; done) | (go_simp; rfl)); (case hp => exact (Reps.one (show Kd.M (Kd.int .i64) _ _ _ a0_0 [.int .i64 a0_0] from rfl) (Reps.one (show Kd.M (Kd.int .i64) _ _ _ a0_1 [.int .i64 a0_1] from rfl) (Reps.one (show Kd.M (Kd.int .i64) _ _ _ a0_2 [.int .i64 a0_2] from rfl) (Reps.one (show Kd.M (Kd.int .i64) _ _ _ a0_3 [.int .i64 a0_3] from rfl) (Reps.none _ _)))))); intro v229 w5 ho6 hb hg_ hnew_; clear hg_ hnew_; (first | rw [← Ny228.out] at ho6 | (simp only [Int.reduceToNat] at ho6; rw [← Ny228.out] at ho6)); have _ := mK (Kd.R_lower ho6 (below_size (bL HB.out))); have _ := mK (blk_below (bK BK227.out) hb); have _ := mK (below_step (bL HB.out) hb); clear BK227 HB; rename_i HO230 BK227 HB; clear hb ho6; obtain ⟨_, _, _, _, _, _⟩ := kc6 BK227.out; obtain ⟨_, _, _, _, _, _⟩ := kf6 BK227.out) | ((with_reducible refine gate_builtin (b := .append) (xs := #[.tmp 11, .tmp 13]) rfl ?_); at_builtin; refine Kd.R_append_rows (Kd.int .i64) (w0 := w) w.heap.size rfl (.tmp 11) (.tmp 13) 41 3 (.int .i64 0) 8 rfl Try.underlying41 info3 rfl (by decide) (by omega) v229 y228 l0_4 _ _ _ (fun _ => True) (fun _ => False) rfl rfl ?aO ?aR (fun _ _ h => h) (fun _ h => h.elim) ?aF ?aB ?aS ?aL ?_; (case aR => repeat (first | exact (Kd.C_below HR0_4.out HB.out) | (with_reducible refine Kd.C_alloc ?_ _) | (with_reducible refine Kd.C_drewN ?_ _) | (with_reducible refine Kd.C_drew ?_))); (case aB => exact (bL HB.out)); (case aF => exact (fun _ _ => trivial)); (case aO => exact (rK HO230.out)); (case aS => exact (below_size (bL HB.out))); (case aL => have := LMc2.out; omega); intro v232 w8 ho hb hg hat; rw [← Ny231.out] at ho; have _ := mK (blk_grown (bK BK227.out) hg (Kd.R_ne HO230.out BK227.out (by decide))); have _ := mK (hb); have _ := mK (ho); clear BK227 HB HO230; rename_i BK227 HB HO233; clear ho hb hg hat))
  go_ret
  exact ⟨_, sE, rK HO233.out, bL HB.out⟩
 ·rw [if_neg c2] at H; exact absurd H (by simp)
/-! ### impl_aggBytes: function 79 -/
mutual
def impl_aggBytes.j0 : Nat → List Int → Int → Int → Int → Int → List Int → Bool → Option (List Int)
 | 0, _, _, _, _, _, _, _ => none
 | k + 1, x3, x235000, x235001, x235002, x235003, x235004, x235005 => (impl_Agg_numbers.f x235000 x235001 x235002 x235003 x235004 x235005).bind fun t239 => (impl_aggBytes.l0 k x3 t239 (t239.length : Int) 0)
def impl_aggBytes.l0 : Nat → List Int → List Int → Int → Int → Option (List Int)
 | 0, _, _, _, _ => none
 | k + 1, x3, x13, x14, x15 => if x15 < x14 then (if 0 ≤ x15 then (if x15 < (x13.length : Int) then (if (rd x13 x15) < 0 then ((impl_PutVar.f k (IntKind.u64.wrap (wrap64 ((wrap64 ((-2) * (rd x13 x15))) - 1)))).bind fun t243 => (if x3.length + t243.length < 140737488355328 then (impl_aggBytes.l0 k (x3 ++ t243) x13 x14 (wrap64 (x15 + 1))) else (none))) else ((impl_PutVar.f k (IntKind.u64.wrap (wrap64 (2 * (rd x13 x15))))).bind fun t249 => (if x3.length + t249.length < 140737488355328 then (impl_aggBytes.l0 k (x3 ++ t249) x13 x14 (wrap64 (x15 + 1))) else (none)))) else (none)) else (none)) else (some x3)
end
def impl_aggBytes.f (k : Nat) (a0_0 : Int) (a0_1 : Int) (a0_2 : Int) (a0_3 : Int) (l0_4 : List Int) (a0_5 : Bool) : Option (List Int) := (some (([0] : List Int) : List Int)).bind fun y235 => (if a0_5 = true then (if 0 < (y235.length : Int) then (impl_aggBytes.j0 k (y235.set (0 : Int).toNat 1) a0_0 a0_1 a0_2 a0_3 l0_4 a0_5) else (none)) else (impl_aggBytes.j0 k y235 a0_0 a0_1 a0_2 a0_3 l0_4 a0_5))
set_option maxHeartbeats 8000000 in
set_option maxRecDepth 100000 in
theorem impl_aggBytes.calls (k : Nat) (a0_0 : Int) (a0_1 : Int) (a0_2 : Int) (a0_3 : Int) (A0_4 : Option Addr) (c0_4 : Nat) (l0_4 : List Int) (a0_5 : Bool) (r : List Int) (w : World) (hr0_4 : Kd.C (Kd.int .i64) w A0_4 l0_4.length l0_4) (hc0_4 : l0_4.length ≤ c0_4) (h : impl_aggBytes.f k a0_0 a0_1 a0_2 a0_3 l0_4 a0_5 = some r) :
  Calls Try.prog 79 #[.agg #[.int .i64 a0_0, .int .i64 a0_1, .int .i64 a0_2, .int .i64 a0_3, .slice A0_4 l0_4.length c0_4, .bool a0_5]] w fun e w' => ∃ v0_ : Value, e = .returned (v0_) ∧ Kd.R (Kd.int .u8) 5 w' w.heap.size (fun _ => True) v0_ r ∧ Below w.heap.size w w' := by
 have hu49 := Try.underlying49
 have HR0_4 := Aside0.mk hr0_4
 have HC0_4 := Aside0.mk hc0_4
 clear hr0_4 hc0_4
 have HB := mK (Below.refl w.heap.size w)
 have H : ((some (([0] : List Int) : List Int)).bind fun y235 => (if a0_5 = true then (if 0 < (y235.length : Int) then (impl_aggBytes.j0 k (y235.set (0 : Int).toNat 1) a0_0 a0_1 a0_2 a0_3 l0_4 a0_5) else (none)) else (impl_aggBytes.j0 k y235 a0_0 a0_1 a0_2 a0_3 l0_4 a0_5))) = some r := h
 clear h
 obtain ⟨y235, hy235⟩ : ∃ y_ : List Int, y_ = (([0] : List Int)) := ⟨_, rfl⟩
 replace H : (if a0_5 = true then (if 0 < (y235.length : Int) then (impl_aggBytes.j0 k (y235.set (0 : Int).toNat 1) a0_0 a0_1 a0_2 a0_3 l0_4 a0_5) else (none)) else (impl_aggBytes.j0 k y235 a0_0 a0_1 a0_2 a0_3 l0_4 a0_5)) = some r := by first | (rw [hy235]; with_reducible exact H) | (have H2_ := (Option.bind_some _ _).symm.trans H; rw [hy235]; with_reducible exact H2_) | (have H2_ := (Option.bind_some _ _).symm.trans H; with_reducible exact H2_) | with_reducible exact H | (rw [hy235]; exact H) | exact H
 have Ny235 := Aside0.mk hy235
 clear hy235
 have HC2 := Aside0.mk H
 clear H
 go_enter Try.func79, Try.ntmps79
 go_upto_if 9 with (first | ((with_reducible refine gate_dst (N := 1) rfl ?_); refine box_event ?hg (N := 1) ?hd (cs := #[.int .i64 a0_0, .int .i64 a0_1, .int .i64 a0_2, .int .i64 a0_3, .slice A0_4 l0_4.length c0_4, .bool a0_5]) (t := 49) ?hr ?_; (case hd => rfl); (case hg => rfl); (case hr => first | (go_simp; done) | (go_simp; rfl)); intro gb234 hg w3 hbox hb; have _ := mK (below_step (bL HB.out) hb); have _ := mK (hbox); have _ := mK (sL hg (bL HB.out)); clear HB; rename_i HB BK234 GE234; clear hb hbox hg) | ((with_reducible refine gate_dst (N := 7) rfl ?_); refine Kd.R_lit (Kd.int .u8) _ 5 ?hg (N := 7) ?hd (xs := ([0] : List Int)) (inner := [.int .u8 0]) (ok := fun _ => True) (okp := fun _ => True) ?hr ?hp (fun _ hk => hk) trivial (Below.refl _ _) (Nat.le_refl _) (by simp) ?_; (case hd => rfl); (case hg => rfl); (case hr => first | (go_simp; done) | (go_simp; rfl)); (case hp => exact (Reps.one (show Kd.M (Kd.int .u8) _ _ _ 0 [.int .u8 0] from rfl) (Reps.none _ _))); intro v236 w4 ho5 hb hg_ hnew_; clear hg_ hnew_; (first | rw [← Ny235.out] at ho5 | (simp only [Int.reduceToNat] at ho5; rw [← Ny235.out] at ho5)); have _ := mK (Kd.R_lower ho5 (below_size (bL HB.out))); have _ := mK (blk_below (bK BK234.out) hb); have _ := mK (below_step (bL HB.out) hb); clear BK234 HB; rename_i HO237 BK234 HB; clear hb ho5; obtain ⟨hcz6_0, hcz6_1, hcz6_2, hcz6_3, hcz6_4, hcz6_5⟩ := kc6 BK234.out; obtain ⟨hfz6_0, hfz6_1, hfz6_2, hfz6_3, hfz6_4, hfz6_5⟩ := kf6 BK234.out))
 (try simp only [Act.put, sq_a, sq_b, sq_c])
 go_cut [] (fun wc => ∃ (kq : Nat) (x3_1 : List Int), Aside0 (impl_aggBytes.j0 kq x3_1 a0_0 a0_1 a0_2 a0_3 l0_4 a0_5 = some r) ∧ Aside0 (kq ≤ k) ∧ Aside0 (Kd.R (Kd.int .u8) 5 wc w.heap.size (fun _ => True) v236 x3_1) ∧ Aside0 (wc.heap[gb234]? = some (.cells #[.int .i64 a0_0, .int .i64 a0_1, .int .i64 a0_2, .int .i64 a0_3, (.slice A0_4 l0_4.length c0_4), .bool a0_5] 49 (0, 0))) ∧ Aside0 (Below w.heap.size w wc))
 case first =>
  have H := HC2.out; clear HC2
  by_cases c7 : a0_5 = true
  ·subst c7
   have H1 : (if 0 < (y235.length : Int) then (impl_aggBytes.j0 k (y235.set (0 : Int).toNat 1) a0_0 a0_1 a0_2 a0_3 l0_4 true) else (none)) = some r := by rw [if_pos rfl] at H; exact H
   clear H; have H := H1; clear H1
   by_cases c8 : 0 < (y235.length : Int)
   ·rw [if_pos c8] at H
    have c8b0 : decide (0 < (y235.length : Int)) = true := decide_eq_true c8; have c8b1 : decide (0 < y235.length) = true := decide_eq_true (by omega); clear c8; (first | rw [c8b0] | (simp only [i64_w, i32_w]; rw [c8b0]) | skip); obtain ⟨y238, hy238⟩ : ∃ y_ : List Int, y_ = (y235.set (0 : Int).toNat 1) := ⟨_, rfl⟩
    replace H : (impl_aggBytes.j0 k y238 a0_0 a0_1 a0_2 a0_3 l0_4 true) = some r := by first | (rw [hy238]; with_reducible exact H) | (have H2_ := (Option.bind_some _ _).symm.trans H; rw [hy238]; with_reducible exact H2_) | (have H2_ := (Option.bind_some _ _).symm.trans H; with_reducible exact H2_) | with_reducible exact H | (rw [hy238]; exact H) | exact H
    have Ny238 := Aside0.mk hy238; clear hy238; have H' := Aside0.mk H; clear H; have p9 : 0 ≤ (0 : Int) := (by omega); have q9 : (0 : Int) < ((y235.length : Int) : Int) := oD; have qi9 : (0 < y235.length) = True := eq_true (by omega); obtain ⟨go9, co9, eo9, gb9, gl9, cl9, HG9⟩ := Kd.R_form HO237.out (by omega); (first | cases eo9 | (injection eo9 with ea_ en_ ec_; (first | subst ea_ | (injection ea_ with ea_; subst ea_)); subst ec_; clear en_)); have GB9 := Aside0.mk gb9; have GG9 := Aside0.mk HG9; clear gb9 gl9 HG9; obtain ⟨hx9_0, hf9_0⟩ := Kd.R_celln 0 HO237.out (0 : Int) p9 q9; (try rw [show ((0 : Int)).toNat = 0 from rfl] at hx9_0); (try simp only [Nat.reduceMul, Nat.zero_mul, Nat.zero_add, Nat.reduceAdd] at hx9_0); (try rw [show ((0 : Int)).toNat = 0 from rfl] at hf9_0); (try simp only [Nat.reduceMul, Nat.zero_mul, Nat.zero_add, Nat.reduceAdd] at hf9_0); replace p9 := eq_true p9; replace q9 := eq_true q9; have HP10 := Kd.R_putg HO237.out (0 : Int) 1
    go_wp2_with (first | ((with_reducible refine gate_store (t := 5) (p := 11) rfl ?_); refine store_event (t := 5) (p := 11) (v := ?vo_w11) (w1 := (w4.setCell ⟨go9, (0 : Int).toNat, none⟩ (.int .u8 1))) ?hg ?ho ?hn ?hr ?_; (case ho => rfl); (case hg => rfl); (case hn => rfl); (case hr => first | (go_simp; done) | (go_simp; rfl)); intro w11 hw; have hg : w4.grownBy w11 (some go9) := (by rw [hw]; exact HP10.2); have hp_ : Kd.R (Kd.int .u8) 5 w11 w.heap.size (fun _ => True) (.slice (some ⟨go9, 0, none⟩) y235.length co9) y238 := (by rw [hw, Ny238.out]; exact HP10.1); clear HP10; have _ := mK (blk_grown (bK BK234.out) hg (Kd.R_ne HO237.out BK234.out (by decide))); have _ := mK (hp_); have _ := mK ((by rw [hw]; exact below_set (HB.out) GB9.out : Below w.heap.size w w11)); clear BK234 HO237 HB; rename_i BK234 HO237 HB; clear hg hw hp_))
    go_meet
    case rel => exact ⟨_, (y238), H', ⟨by first | omega | exact Nat.le_refl _⟩, ⟨rK HO237.out⟩, ⟨bK BK234.out⟩, ⟨bL HB.out⟩⟩
   ·rw [if_neg c8] at H; exact absurd H (by simp)
  ·replace c7 := Bool.eq_false_iff.mpr c7
   subst c7
   have H1 : (impl_aggBytes.j0 k y235 a0_0 a0_1 a0_2 a0_3 l0_4 false) = some r := by rw [if_neg (show ¬ (false = true) by decide)] at H; exact H
   clear H; have H := H1; clear H1; have H' := Aside0.mk H; clear H
   go_wp2
   go_meet
   case rel => exact ⟨_, (y235), H', ⟨by first | omega | exact Nat.le_refl _⟩, ⟨rK HO237.out⟩, ⟨bK BK234.out⟩, ⟨bL HB.out⟩⟩
 case rest =>
  clear HC2
  try clear p2
  try clear c7
  try clear c8
  try clear c8b0
  try clear c8b1
  try clear p9
  try clear q9
  try clear hx9
  try clear qi9
  try clear hf9
  try clear hcz6_0
  try clear hcz6_1
  try clear hcz6_2
  try clear hcz6_3
  try clear hcz6_4
  try clear hcz6_5
  try clear hfz6_0
  try clear hfz6_1
  try clear hfz6_2
  try clear hfz6_3
  try clear hfz6_4
  try clear hfz6_5
  try clear hx9_0
  try clear p9
  try clear q9
  obtain ⟨kq, x3_1, HA, HJ1, HO_3, BK234, HB⟩ := hcut
  cases kq with
  | zero => exact absurd HA.out (by simp [impl_aggBytes.j0])
  | succ kj1 =>
   have H := HA.out; clear HA; simp only [impl_aggBytes.j0] at H; replace H := Option.bind_eq_some_iff.mp H; obtain ⟨t239, A120, H⟩ := H; (try dsimp only at H); have A12 := Aside0.mk A120; clear A120; have H' := Aside0.mk H; clear H; obtain ⟨hcz13_0, hcz13_1, hcz13_2, hcz13_3, hcz13_4, hcz13_5⟩ := kc6 BK234.out; obtain ⟨hfz13_0, hfz13_1, hfz13_2, hfz13_3, hfz13_4, hfz13_5⟩ := kf6 BK234.out
   go_wp2_with (first | ((with_reducible refine gate_callee (f := 110) rfl ?_); refine gL (some 13) Try.func110 #[.agg #[.int .i64 a0_0, .int .i64 a0_1, .int .i64 a0_2, .int .i64 a0_3, .slice A0_4 l0_4.length c0_4, .bool a0_5]] ?_; (with_reducible refine (impl_Agg_numbers.calls a0_0 a0_1 a0_2 a0_3 _ _ l0_4 a0_5 t239 _ ?side1 ?side2 A12.out).mono ?_); (case side1 => exact cK (Kd.C_below HR0_4.out HB.out)); (case side2 => exact HC0_4.out); rintro e w14 ⟨v240, rfl, ho0, hb⟩; refine ⟨_, rfl, ?_⟩; have _ := mK (Kd.R_below (rK HO_3.out) hb); have _ := mK (Kd.R_lower ho0 (below_size (bL HB.out))); have _ := mK (blk_below (bK BK234.out) hb); have _ := mK (below_step (bL HB.out) hb); clear HO_3 BK234 HB; rename_i HO_3 HO241 BK234 HB; (try clear hb); (try clear hb2); (try clear hk); (try clear hi); (try clear ho0); obtain ⟨Ao15, co15, eo15⟩ := Kd.R_slice HO241.out; subst eo15))
   go_loopg [3, 15] kj1 (fun kq v3 v15 w' => ∃ (x3_2 : List Int) (x15_2 : Int), v15 = .int .i64 x15_2 ∧ Aside0 (impl_aggBytes.l0 kq x3_2 t239 (t239.length : Int) x15_2 = some r) ∧ Aside0 (kq ≤ kj1) ∧ Aside0 (Kd.R (Kd.int .u8) 5 w' w.heap.size (fun _ => True) v3 x3_2) ∧ Aside0 (Kd.R (Kd.int .i64) 3 w' w.heap.size (fun _ => True) (.slice Ao15 t239.length co15) t239) ∧ Aside0 (w'.heap[gb234]? = some (.cells #[.int .i64 a0_0, .int .i64 a0_1, .int .i64 a0_2, .int .i64 a0_3, (.slice A0_4 l0_4.length c0_4), .bool a0_5] 49 (0, 0))) ∧ Aside0 (Below w.heap.size w w'))
   case atStart => exact ⟨(x3_1), (0), sE, H', ⟨Nat.le_refl _⟩, ⟨rK HO_3.out⟩, ⟨rK HO241.out⟩, ⟨bK BK234.out⟩, ⟨bL HB.out⟩⟩
   case round =>
    clear H'
    try clear c1
    try clear p2
    try clear c7
    try clear c8
    try clear c8b0
    try clear c8b1
    try clear p9
    try clear q9
    try clear hx9
    try clear qi9
    try clear hf9
    try clear c11
    try clear hcz13_0
    try clear hcz13_1
    try clear hcz13_2
    try clear hcz13_3
    try clear hcz13_4
    try clear hcz13_5
    try clear hcz6_0
    try clear hcz6_1
    try clear hcz6_2
    try clear hcz6_3
    try clear hcz6_4
    try clear hcz6_5
    try clear hfz13_0
    try clear hfz13_1
    try clear hfz13_2
    try clear hfz13_3
    try clear hfz13_4
    try clear hfz13_5
    try clear hfz6_0
    try clear hfz6_1
    try clear hfz6_2
    try clear hfz6_3
    try clear hfz6_4
    try clear hfz6_5
    try clear hx9_0
    try clear p2
    try clear p9
    try clear q9
    obtain ⟨x3_2, x15_2, rfl, HA, HK2, HO_3, HO_13, BK234, HB⟩ := hrel
    cases gk with
    | zero => exact absurd HA.out (by simp [impl_aggBytes.l0])
    | succ k2 =>
     have H := HA.out; clear HA; simp only [impl_aggBytes.l0] at H
     by_cases c16 : x15_2 < (t239.length : Int)
     ·rw [if_pos c16] at H
      have c16b0 : decide (x15_2 < (t239.length : Int)) = true := decide_eq_true c16; clear c16
      by_cases c17 : 0 ≤ x15_2
      ·rw [if_pos c17] at H
       have c17b0 : decide (0 ≤ x15_2) = true := decide_eq_true c17; clear c17
       by_cases c18 : x15_2 < (t239.length : Int)
       ·rw [if_pos c18] at H
        have c18b0 : decide (x15_2 < (t239.length : Int)) = true := decide_eq_true c18; clear c18
        by_cases c19 : (rd t239 x15_2) < 0
        ·rw [if_pos c19] at H
         have c19b0 : decide ((rd t239 x15_2) < 0) = true := decide_eq_true c19; clear c19; replace H := Option.bind_eq_some_iff.mp H; obtain ⟨t243, A200, H⟩ := H; (try dsimp only at H); have A20 := Aside0.mk A200; clear A200
         by_cases c21 : x3_2.length + t243.length < 140737488355328
         ·rw [if_pos c21] at H
          have LMc21 := Aside0.mk c21; clear c21; obtain ⟨y246, hy246⟩ : ∃ y_ : List Int, y_ = (x3_2 ++ t243) := ⟨_, rfl⟩
          replace H : (impl_aggBytes.l0 k2 y246 t239 (t239.length : Int) (wrap64 (x15_2 + 1))) = some r := by first | (rw [hy246]; with_reducible exact H) | (have H2_ := (Option.bind_some _ _).symm.trans H; rw [hy246]; with_reducible exact H2_) | (have H2_ := (Option.bind_some _ _).symm.trans H; with_reducible exact H2_) | with_reducible exact H | (rw [hy246]; exact H) | exact H
          have Ny246 := Aside0.mk hy246; clear hy246; have H' := Aside0.mk H; clear H; have p242 : 0 ≤ (x15_2 : Int) := oD; have q242 : x15_2 < (t239.length : Int) := oD; obtain ⟨ad242, e242, hx242_0⟩ := Kd.at_int (Kd.R_reads' HO_13.out).2.2 x15_2 p242 q242
          cases e242
          replace p242 := eq_true p242; replace q242 := eq_true q242
          go_wp2_with (first | ((with_reducible refine gate_callee (f := 50) rfl ?_); refine gL (some 29) Try.func50 #[.int .u64 (IntKind.u64.wrap (wrap64 ((wrap64 ((-2) * (rd t239 x15_2))) - 1)))] ?_; (with_reducible refine (impl_PutVar.calls k2 (IntKind.u64.wrap (wrap64 ((wrap64 ((-2) * (rd t239 x15_2))) - 1))) t243 _ A20.out).mono ?_); rintro e w22 ⟨v244, rfl, ho0, hb⟩; refine ⟨_, rfl, ?_⟩; have _ := mK (Kd.R_elder' (rK HO_3.out) (Kd.R_base ho0) hb); have _ := mK (Kd.R_below (rK HO_13.out) hb); have _ := mK (Kd.R_lower (Kd.R_new' ho0 (Kd.R_lt (rK HO_3.out))) (below_size (bL HB.out))); have _ := mK (blk_below (bK BK234.out) hb); have _ := mK (below_step (bL HB.out) hb); clear HO_3 HO_13 BK234 HB; rename_i HO_3 HO_13 HO245 BK234 HB; (try clear hb); (try clear hb2); (try clear hk); (try clear hi); (try clear ho0); obtain ⟨Ao24, co24, eo24⟩ := Kd.R_slice HO245.out; subst eo24) | ((with_reducible refine gate_builtin (b := .append) (xs := #[.tmp 26, .tmp 29]) rfl ?_); at_builtin; refine Kd.R_append_rows (Kd.int .u8) (w0 := w) w.heap.size rfl (.tmp 26) (.tmp 29) 24 5 (.int .u8 0) 1 rfl Try.underlying24 info5 rfl (by decide) (by omega) u3 x3_2 t243 _ _ _ (fun k_ => some k_ ≠ (.slice Ao24 t243.length co24 : Value).ownBlock) (fun _ => False) rfl rfl ?aO ?aR (fun _ _ h => h) (fun _ h => h.elim) ?aF ?aB ?aS ?aL ?_; (case aR => repeat (first | exact (Kd.R_reads' HO245.out).2.2 | (with_reducible refine Kd.C_alloc ?_ _) | (with_reducible refine Kd.C_drewN ?_ _) | (with_reducible refine Kd.C_drew ?_))); (case aB => exact (bL HB.out)); (case aF => exact (fun k_ hk => Kd.fresh' (Kd.R_lt (rK HO245.out)) k_ hk)); (case aO => exact (by (with_reducible repeat (first | apply Kd.R_alloc | apply Kd.R_drewN | apply Kd.R_drew)); exact Kd.R_mono HO_3.out (fun _ hk => hk.2))); (case aS => exact (below_size (bL HB.out))); (case aL => have := LMc21.out; omega); intro v247 w23 ho hb hg hat; rw [← Ny246.out] at ho; have _ := mK (Kd.R_over' (rK HO_13.out) (Kd.R_typed (rK HO_3.out)) (by decide) hg); have _ := mK (blk_grown (bK BK234.out) hg (Kd.R_ne HO_3.out BK234.out (by decide))); have _ := mK (Kd.R_after (ok := (fun _ => True)) (rK HO245.out) hg hat); have _ := mK (hb); have _ := mK (ho); clear HO_13 BK234 HO245 HB HO_3; rename_i HO_13 BK234 HO245 HB HO248; clear ho hb hg hat))
          go_roundg k2
          case measure => have := HJ1.out; have := HK2.out; omega
          case rel => exact ⟨(y246), (wrap64 (x15_2 + 1)), sE, H', ⟨by have := HJ1.out; have := HK2.out; omega⟩, ⟨by (with_reducible repeat (first | apply Kd.R_alloc | apply Kd.R_drewN | apply Kd.R_drew)); exact Kd.R_mono HO248.out (fun _ hk => trivial)⟩, ⟨rK HO_13.out⟩, ⟨bK BK234.out⟩, ⟨bL HB.out⟩⟩
         ·rw [if_neg c21] at H; exact absurd H (by simp)
        ·rw [if_neg c19] at H
         have c19b0 : decide ((rd t239 x15_2) < 0) = false := decide_eq_false c19; clear c19; replace H := Option.bind_eq_some_iff.mp H; obtain ⟨t249, A250, H⟩ := H; (try dsimp only at H); have A25 := Aside0.mk A250; clear A250
         by_cases c26 : x3_2.length + t249.length < 140737488355328
         ·rw [if_pos c26] at H
          have LMc26 := Aside0.mk c26; clear c26; obtain ⟨y252, hy252⟩ : ∃ y_ : List Int, y_ = (x3_2 ++ t249) := ⟨_, rfl⟩
          replace H : (impl_aggBytes.l0 k2 y252 t239 (t239.length : Int) (wrap64 (x15_2 + 1))) = some r := by first | (rw [hy252]; with_reducible exact H) | (have H2_ := (Option.bind_some _ _).symm.trans H; rw [hy252]; with_reducible exact H2_) | (have H2_ := (Option.bind_some _ _).symm.trans H; with_reducible exact H2_) | with_reducible exact H | (rw [hy252]; exact H) | exact H
          have Ny252 := Aside0.mk hy252; clear hy252; have H' := Aside0.mk H; clear H; have p242 : 0 ≤ (x15_2 : Int) := oD; have q242 : x15_2 < (t239.length : Int) := oD; obtain ⟨ad242, e242, hx242_0⟩ := Kd.at_int (Kd.R_reads' HO_13.out).2.2 x15_2 p242 q242
          cases e242
          replace p242 := eq_true p242; replace q242 := eq_true q242
          go_wp2_with (first | ((with_reducible refine gate_callee (f := 50) rfl ?_); refine gL (some 29) Try.func50 #[.int .u64 (IntKind.u64.wrap (wrap64 (2 * (rd t239 x15_2))))] ?_; (with_reducible refine (impl_PutVar.calls k2 (IntKind.u64.wrap (wrap64 (2 * (rd t239 x15_2)))) t249 _ A25.out).mono ?_); rintro e w27 ⟨v250, rfl, ho0, hb⟩; refine ⟨_, rfl, ?_⟩; have _ := mK (Kd.R_elder' (rK HO_3.out) (Kd.R_base ho0) hb); have _ := mK (Kd.R_below (rK HO_13.out) hb); have _ := mK (Kd.R_lower (Kd.R_new' ho0 (Kd.R_lt (rK HO_3.out))) (below_size (bL HB.out))); have _ := mK (blk_below (bK BK234.out) hb); have _ := mK (below_step (bL HB.out) hb); clear HO_3 HO_13 BK234 HB; rename_i HO_3 HO_13 HO251 BK234 HB; (try clear hb); (try clear hb2); (try clear hk); (try clear hi); (try clear ho0); obtain ⟨Ao29, co29, eo29⟩ := Kd.R_slice HO251.out; subst eo29) | ((with_reducible refine gate_builtin (b := .append) (xs := #[.tmp 26, .tmp 29]) rfl ?_); at_builtin; refine Kd.R_append_rows (Kd.int .u8) (w0 := w) w.heap.size rfl (.tmp 26) (.tmp 29) 24 5 (.int .u8 0) 1 rfl Try.underlying24 info5 rfl (by decide) (by omega) u3 x3_2 t249 _ _ _ (fun k_ => some k_ ≠ (.slice Ao29 t249.length co29 : Value).ownBlock) (fun _ => False) rfl rfl ?aO ?aR (fun _ _ h => h) (fun _ h => h.elim) ?aF ?aB ?aS ?aL ?_; (case aR => repeat (first | exact (Kd.R_reads' HO251.out).2.2 | (with_reducible refine Kd.C_alloc ?_ _) | (with_reducible refine Kd.C_drewN ?_ _) | (with_reducible refine Kd.C_drew ?_))); (case aB => exact (bL HB.out)); (case aF => exact (fun k_ hk => Kd.fresh' (Kd.R_lt (rK HO251.out)) k_ hk)); (case aO => exact (by (with_reducible repeat (first | apply Kd.R_alloc | apply Kd.R_drewN | apply Kd.R_drew)); exact Kd.R_mono HO_3.out (fun _ hk => hk.2))); (case aS => exact (below_size (bL HB.out))); (case aL => have := LMc26.out; omega); intro v253 w28 ho hb hg hat; rw [← Ny252.out] at ho; have _ := mK (Kd.R_over' (rK HO_13.out) (Kd.R_typed (rK HO_3.out)) (by decide) hg); have _ := mK (blk_grown (bK BK234.out) hg (Kd.R_ne HO_3.out BK234.out (by decide))); have _ := mK (Kd.R_after (ok := (fun _ => True)) (rK HO251.out) hg hat); have _ := mK (hb); have _ := mK (ho); clear HO_13 BK234 HO251 HB HO_3; rename_i HO_13 BK234 HO251 HB HO254; clear ho hb hg hat))
          go_roundg k2
          case measure => have := HJ1.out; have := HK2.out; omega
          case rel => exact ⟨(y252), (wrap64 (x15_2 + 1)), sE, H', ⟨by have := HJ1.out; have := HK2.out; omega⟩, ⟨by (with_reducible repeat (first | apply Kd.R_alloc | apply Kd.R_drewN | apply Kd.R_drew)); exact Kd.R_mono HO254.out (fun _ hk => trivial)⟩, ⟨rK HO_13.out⟩, ⟨bK BK234.out⟩, ⟨bL HB.out⟩⟩
         ·rw [if_neg c26] at H; exact absurd H (by simp)
       ·rw [if_neg c18] at H; exact absurd H (by simp)
      ·rw [if_neg c17] at H; exact absurd H (by simp)
     ·rw [if_neg c16] at H
      have c16b0 : decide (x15_2 < (t239.length : Int)) = false := decide_eq_false c16; clear c16; obtain rfl := Option.some.inj H
      go_wp2
      go_ret
      exact ⟨_, sE, rK HO_3.out, bL HB.out⟩
end Go.Proofs.Ytllmlnagihlokaa.PFnExactBoundsOf
