-- Written for this claim by a program of this session: a scratch copy of the kit's print with patches of this session.
import Derived.Test.YthkimdibhlkpbaaPFnExactOverlapx0
namespace Go.Proofs.Ythkimdibhlkpbaa.PFnExactOverlap
open Go.RowKit Go.Proofs.YthkimdibhlkpbaaW.PrintWords Go.Proofs.YthkimdibhlkpbaaW.PrintLast Go.Proofs.YthkimdibhlkpbaaW.PrintMore
attribute [local go_sem] max2_int min2_int max_two min_two max_three min_three max_four min_four hw_string_geq hw_string_gtr hw_string_leq   -- for this text's walks alone
set_option linter.unusedVariables false
set_option linter.unusedSimpArgs false

/-! ### slices_Sort_int_int: function 34, by hand -/
def slices_Sort_int_int.f (l0 : List Int) : Option (List Int) := if l0.length < 4611686018427387904 then some (l0.mergeSort fun x y => decide (x ≤ y)) else none
theorem slices_Sort_int_int.cells {g cap : Nat} {cur : Array Value} {e : TypeId} {w : World} {l : List Int} (hb : w.heap[g]? = some (.cells cur e (0, 0))) (ht : cur.toList.take (l.length * 1) = encs (Value.int .i64) l) (hn : l.length ≤ cap) (hs : cur.size = cap * 1) : Go.Sort.Holds (Value.int .i64) w g 0 l.toArray := by
  intro j hj
  have hj2 : j < l.length := by simpa using hj
  refine ⟨?_, ?_⟩
  · rw [Nat.zero_add]
    refine (blk_cell hb j).trans ?_
    have h1 : cur[j]? = (cur.toList.take (l.length * 1))[j]? := by
      rw [List.getElem?_take_of_lt (by omega), Array.getElem?_toList]
    rw [h1, ht]
    simp [encs, hj2]
  · rw [Nat.zero_add]
    exact blk_frozen hb j
theorem slices_Sort_int_int.put {cap : Nat} {cur : Array Value} {n : Nat} {d : List Int} (hd : d.length = n) (hn : n ≤ cap) (hs : cur.size = cap * 1) (m : Nat) (hm : m ≤ n) : (Go.Sort.putCells (Value.int .i64) 0 d.toArray cur).toList.take (m * 1) = encs (Value.int .i64) (d.take m) := by
  apply List.ext_getElem?
  intro k
  by_cases hk : k < m
  · have h1 : k < cur.size := by omega
    have h2 : k < d.length := by omega
    rw [List.getElem?_take_of_lt (by omega)]
    simp [encs, Go.Sort.putCells, hk, h1, h2]
  · rw [List.getElem?_eq_none (by simp; omega), List.getElem?_eq_none (by simp [encs]; omega)]
set_option maxHeartbeats 8000000 in
set_option maxRecDepth 100000 in
theorem slices_Sort_int_int.calls (P0_ : Nat → Prop) (u9000_ : Value) (l0 : List Int) (r1 : List Int) (w0 w : World) (hB : Below w0.heap.size w0 w) (ho0 : Kd.R (Kd.int .i64) 3 w w0.heap.size P0_ u9000_ l0) (h : slices_Sort_int_int.f l0 = some (r1)) :
    Calls Try.prog 34 #[u9000_] w fun e w' => e = .returned (.tuple #[]) ∧ Kd.R (Kd.int .i64) 3 w' w0.heap.size (fun k_ => (P0_ k_ ∨ w.heap.size ≤ k_)) u9000_ r1 ∧ Below w0.heap.size w0 w' ∧ Kept w w' (fun k_ => P0_ k_) := by
  unfold slices_Sort_int_int.f at h
  by_cases hsz : l0.length < 4611686018427387904
  · rw [if_pos hsz] at h
    obtain rfl := Option.some.inj h
    clear h
    have ho := Kd.own_of_R ho0
    obtain ⟨hlen, ⟨rfl, h0⟩ | ⟨g, cap, cur, rfl, hbase, hheap, hncap, hcap, hsize, htake⟩⟩ := ho
    · have hnil : l0 = [] := List.eq_nil_of_length_eq_zero h0
      subst hnil
      refine (Go.Proofs.Try.slices_Sort_int_none none 0 w).mono ?_
      rintro e w' ⟨rfl, rfl⟩
      exact ⟨rfl, by simpa using Kd.R_mono ho0 (fun k_ hk => .inl hk), hB, Kept.refl _ _⟩
    · have hg : g < w.heap.size := blk_lt hheap
      refine (Go.Proofs.Try.slices_Sort_int g 0 cap l0 w (slices_Sort_int_int.cells hheap htake hncap hsize) hg hsz).mono ?_
      rintro e w' ⟨rfl, q, os, rfl⟩
      have hml : (l0.mergeSort fun x y => decide (x ≤ y)).length = l0.length := List.length_mergeSort _
      have hw : ∀ i, i < w.heap.size → i ≠ g → (Go.Sort.grow (Go.Sort.putRow (Value.int .i64) (Go.Sort.ahead w q) g 0 (l0.mergeSort fun x y => decide (x ≤ y)).toArray) os).heap[i]? = w.heap[i]? := by
        intro i hi hne
        show (_ ++ os)[i]? = _
        rw [Array.getElem?_append_left (by simpa using hi)]
        show (w.heap.modify g _)[i]? = _
        rw [Array.getElem?_modify, if_neg (fun e => hne e.symm)]
      have hgn : (Go.Sort.grow (Go.Sort.putRow (Value.int .i64) (Go.Sort.ahead w q) g 0 (l0.mergeSort fun x y => decide (x ≤ y)).toArray) os).heap[g]? = some (.cells (Go.Sort.putCells (Value.int .i64) 0 (l0.mergeSort fun x y => decide (x ≤ y)).toArray cur) 3 (0, 0)) := by
        show (_ ++ os)[g]? = _
        rw [Array.getElem?_append_left (by simpa using hg)]
        show (w.heap.modify g _)[g]? = _
        rw [Array.getElem?_modify, if_pos rfl, hheap]
        rfl
      have hsz2 : w.heap.size ≤ (Go.Sort.grow (Go.Sort.putRow (Value.int .i64) (Go.Sort.ahead w q) g 0 (l0.mergeSort fun x y => decide (x ≤ y)).toArray) os).heap.size := by simp
      refine ⟨rfl, ?_, ?_, ⟨hsz2, fun i hi hn => hw i hi (fun e => hn (e ▸ ho0.1 g rfl))⟩⟩
      · refine Kd.R_of_own (enc := Value.int .i64) ⟨by simp [encs], .inr ⟨g, cap, _, by rw [hml], hbase, hgn, by rw [hml]; exact hncap, hcap, by simpa [Go.Sort.putCells] using hsize, ?_⟩⟩ (fun k hk => .inl (ho0.1 k hk))
        have := slices_Sort_int_int.put (d := l0.mergeSort fun x y => decide (x ≤ y)) hml hncap hsize l0.length (Nat.le_refl _)
        rw [hml, this, ← hml, List.take_length]
      · exact ⟨hB.os, hB.tape, hB.output, Nat.le_trans hB.size hsz2, fun i hi => (hw i (Nat.lt_of_lt_of_le hi hB.size) (by omega)).trans (hB.block i hi)⟩
  · rw [if_neg hsz] at h
    cases h

/-! ### slices_Compact_int_int: function 35, by hand -/
def slices_Compact_int_int.f (l0 : List Int) : Option (List Int) := if l0.length ≤ 9223372036854775807 then some (Lib.compact l0) else none
theorem slices_Compact_int_int.cells {g cap : Nat} {cur : Array Value} {e : TypeId} {w : World} {l : List Int} (hb : w.heap[g]? = some (.cells cur e (0, 0))) (ht : cur.toList.take (l.length * 1) = encs (Value.int .i64) l) (hn : l.length ≤ cap) (hs : cur.size = cap * 1) : Go.Sort.Holds (Value.int .i64) w g 0 l.toArray := by
  intro j hj
  have hj2 : j < l.length := by simpa using hj
  refine ⟨?_, ?_⟩
  · rw [Nat.zero_add]
    refine (blk_cell hb j).trans ?_
    have h1 : cur[j]? = (cur.toList.take (l.length * 1))[j]? := by
      rw [List.getElem?_take_of_lt (by omega), Array.getElem?_toList]
    rw [h1, ht]
    simp [encs, hj2]
  · rw [Nat.zero_add]
    exact blk_frozen hb j
theorem slices_Compact_int_int.put {cap : Nat} {cur : Array Value} {n : Nat} {d : List Int} (hd : d.length = n) (hn : n ≤ cap) (hs : cur.size = cap * 1) (m : Nat) (hm : m ≤ n) : (Go.Sort.putCells (Value.int .i64) 0 d.toArray cur).toList.take (m * 1) = encs (Value.int .i64) (d.take m) := by
  apply List.ext_getElem?
  intro k
  by_cases hk : k < m
  · have h1 : k < cur.size := by omega
    have h2 : k < d.length := by omega
    rw [List.getElem?_take_of_lt (by omega)]
    simp [encs, Go.Sort.putCells, hk, h1, h2]
  · rw [List.getElem?_eq_none (by simp; omega), List.getElem?_eq_none (by simp [encs]; omega)]
set_option maxHeartbeats 8000000 in
set_option maxRecDepth 100000 in
theorem slices_Compact_int_int.calls (P0_ : Nat → Prop) (u9000_ : Value) (l0 : List Int) (r1 : List Int) (w0 w : World) (hB : Below w0.heap.size w0 w) (ho0 : Kd.R (Kd.int .i64) 3 w w0.heap.size P0_ u9000_ l0) (h : slices_Compact_int_int.f l0 = some (r1)) :
    Calls Try.prog 35 #[u9000_] w fun e w' => ∃ v0_ : Value, e = .returned (v0_) ∧ Kd.R (Kd.int .i64) 3 w' w0.heap.size (fun k_ => (P0_ k_ ∨ w.heap.size ≤ k_)) v0_ r1 ∧ Below w0.heap.size w0 w' ∧ Kept w w' (fun k_ => P0_ k_) := by
  unfold slices_Compact_int_int.f at h
  by_cases hsz : l0.length ≤ 9223372036854775807
  · rw [if_pos hsz] at h
    obtain rfl := Option.some.inj h
    clear h
    have ho := Kd.own_of_R ho0
    obtain ⟨hlen, ⟨rfl, h0⟩ | ⟨g, cap, cur, rfl, hbase, hheap, hncap, hcap, hsize, htake⟩⟩ := ho
    · have hnil : l0 = [] := List.eq_nil_of_length_eq_zero h0
      subst hnil
      refine (Go.Proofs.Try.slices_Compact_int_empty none 0 w).mono ?_
      rintro e w' ⟨rfl, rfl⟩
      exact ⟨_, rfl, Kd.R_nil _ _ _ _ _, hB, Kept.refl _ _⟩
    · have hg : g < w.heap.size := blk_lt hheap
      refine (Go.Proofs.Try.slices_Compact_int g 0 cap l0 w (slices_Compact_int_int.cells hheap htake hncap hsize) hsz hncap).mono ?_
      rintro e w' ⟨rfl, q, rfl⟩
      have hcl : (Lib.compact l0).length ≤ l0.length := by
        unfold Lib.compact Lib.compactUpTo
        rw [List.length_map]
        exact Nat.le_trans (List.length_filter_le _ _) (by simp)
      obtain ⟨d, hd⟩ : ∃ d, d = Lib.compact l0 ++ List.replicate (l0.length - (Lib.compact l0).length) 0 := ⟨_, rfl⟩
      have hdl : d.length = l0.length := by rw [hd]; simp; omega
      rw [← hd]
      have hw : ∀ i, i ≠ g → (Go.Sort.putRow (Value.int .i64) (Go.Sort.ahead w q) g 0 d.toArray).heap[i]? = w.heap[i]? := by
        intro i hne
        show (w.heap.modify g _)[i]? = _
        rw [Array.getElem?_modify, if_neg (fun e => hne e.symm)]
      have hgn : (Go.Sort.putRow (Value.int .i64) (Go.Sort.ahead w q) g 0 d.toArray).heap[g]? = some (.cells (Go.Sort.putCells (Value.int .i64) 0 d.toArray cur) 3 (0, 0)) := by
        show (w.heap.modify g _)[g]? = _
        rw [Array.getElem?_modify, if_pos rfl, hheap]
        rfl
      have hsz2 : w.heap.size ≤ (Go.Sort.putRow (Value.int .i64) (Go.Sort.ahead w q) g 0 d.toArray).heap.size := by simp
      refine ⟨_, rfl, ?_, ?_, ⟨hsz2, fun i hi hn => hw i (fun e => hn (e ▸ ho0.1 g rfl))⟩⟩
      · refine Kd.R_of_own (enc := Value.int .i64) ⟨by simp [encs], .inr ⟨g, cap, _, rfl, hbase, hgn, Nat.le_trans hcl hncap, hcap, by simpa [Go.Sort.putCells] using hsize, ?_⟩⟩ (fun k hk => .inl (ho0.1 k hk))
        rw [slices_Compact_int_int.put hdl hncap hsize _ hcl, hd]
        simp
      · exact ⟨hB.os, hB.tape, hB.output, Nat.le_trans hB.size hsz2, fun i hi => (hw i (by omega)).trans (hB.block i hi)⟩
  · rw [if_neg hsz] at h
    cases h

end Go.Proofs.Ythkimdibhlkpbaa.PFnExactOverlap
