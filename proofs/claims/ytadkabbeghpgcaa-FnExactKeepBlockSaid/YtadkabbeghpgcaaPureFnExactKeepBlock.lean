/- The law FnExactKeepBlock answers true, for all lists, numbers and blocks. -/
import Derived.Test.YtadkabbeghpgcaaPFnExactKeepBlockx3
import Derived.Test.YtadkabbeghpgcaaPFnExactKeepBlockx3
set_option linter.unusedVariables false
set_option linter.unusedSimpArgs false
namespace Go.Proofs.Ytadkabbeghpgcaa.Pure
open Go.RowKit Go.Proofs.Ytadkabbeghpgcaa.PFnExactKeepBlock Go.Proofs.YtadkabbeghpgcaaW Go.Proofs.YtadkabbeghpgcaaW.PrintWords Go.Proofs.YtadkabbeghpgcaaW.PrintLast Go.Proofs.YtadkabbeghpgcaaW.PrintMore
/-! ### base: rounds, numbers -/
theorem Ev_succ {α : Type} {g : Nat → Option α} {r : α} (h : Ev (fun k => g (k + 1)) r) : Ev g r := Ev.step (fun _ => rfl) h
theorem Ev_some {α : Type} {o : Option α} {r : α} (h : o = some r) : Ev (fun _ => o) r := ⟨0, fun _ _ => h⟩
theorem Ev_cast {α : Type} {g : Nat → Option α} {r q : α} (h : Ev g r) (e : r = q) : Ev g q := e ▸ h
theorem w64 {n : Int} (h : -9223372036854775808 ≤ n) (h' : n ≤ 9223372036854775807) : wrap64 n = n := by unfold wrap64; omega
theorem wf_i64 {n : Int} (h : (Lit.int .i64 n).wf = true) : -9223372036854775808 ≤ n ∧ n ≤ 9223372036854775807 := by
  simp only [Lit.wf, IntKind.min, IntKind.max, IntKind.signed, IntKind.bits, Bool.and_eq_true, decide_eq_true_eq, if_true] at h
  omega
theorem wf_u64 {n : Int} (h : (Lit.int .u64 n).wf = true) : 0 ≤ n ∧ n ≤ 18446744073709551615 := by
  simp only [Lit.wf, IntKind.min, IntKind.max, IntKind.signed, IntKind.bits, Bool.and_eq_true, decide_eq_true_eq, if_true] at h
  simp at h
  omega
theorem wf_u8 {n : Int} (h : (Lit.int .u8 n).wf = true) : 0 ≤ n ∧ n ≤ 255 := by
  simp only [Lit.wf, IntKind.min, IntKind.max, IntKind.signed, IntKind.bits, Bool.and_eq_true, decide_eq_true_eq, if_true] at h
  simp at h
  omega
theorem wrap_u64 (n : Int) : IntKind.u64.wrap n = n % 18446744073709551616 := by simp [IntKind.wrap, IntKind.bits, IntKind.signed]
theorem wrap_u32 (n : Int) : IntKind.u32.wrap n = n % 4294967296 := by simp [IntKind.wrap, IntKind.bits, IntKind.signed]
/-- A list of bytes. -/
def Bytes (l : List Int) : Prop := ∀ x ∈ l, 0 ≤ x ∧ x ≤ 255
theorem Bytes.wf {l : List Int} (h : ∀ x ∈ l, (Lit.int .u8 x).wf = true) : Bytes l := fun x hx => wf_u8 (h x hx)
theorem Bytes.nil : Bytes [] := fun x hx => by cases hx
theorem Bytes.app {a b : List Int} (h : Bytes a) (k : Bytes b) : Bytes (a ++ b) := fun x hx => by
  rcases List.mem_append.1 hx with h' | h'
  · exact h x h'
  · exact k x h'
theorem Bytes.one {x : Int} (h : 0 ≤ x) (h' : x ≤ 255) : Bytes [x] := fun y hy => (List.mem_singleton.1 hy) ▸ ⟨h, h'⟩
theorem Bytes.sub {a b : List Int} (h : Bytes a) (k : ∀ x ∈ b, x ∈ a) : Bytes b := fun x hx => h x (k x hx)
theorem Bytes.take {a : List Int} (h : Bytes a) (n : Nat) : Bytes (a.take n) := h.sub fun _ hx => List.mem_of_mem_take hx
theorem Bytes.drop {a : List Int} (h : Bytes a) (n : Nat) : Bytes (a.drop n) := h.sub fun _ hx => List.mem_of_mem_drop hx
theorem rd_lt {l : List Int} {i : Nat} (h : i < l.length) : rd l (i : Int) = l[i] := by simp [rd, h]
theorem Bytes.rd {l : List Int} (h : Bytes l) (i : Int) : 0 ≤ rd l i ∧ rd l i ≤ 255 := by
  unfold PrintWords.rd
  by_cases hi : i.toNat < l.length
  · rw [List.getD_eq_getElem?_getD, List.getElem?_eq_getElem hi]; exact h _ (List.getElem_mem hi)
  · rw [List.getD_eq_getElem?_getD, List.getElem?_eq_none (by omega)]; simp
theorem drop_cons {α : Type} {l : List α} {i : Nat} (h : i < l.length) : l.drop i = l[i] :: l.drop (i + 1) := List.drop_eq_getElem_cons h
theorem within_eq (a b c : Int) : impl_within.f a b c = some (decide (b ≤ a ∧ a ≤ c)) := by
  unfold impl_within.f
  by_cases h : a ≥ b
  · rw [if_pos h]; simp; intro; omega
  · rw [if_neg h]; simp; intro; omega
theorem l1In_eq (a b c : Int) : spec_l1In.f a b c = some (decide (b ≤ a ∧ a ≤ c)) := by
  unfold spec_l1In.f
  by_cases h : a ≥ b
  · rw [if_pos h]; simp; intro; omega
  · rw [if_neg h]; simp; intro; omega
/-! ### the laws' own words on bytes -/
theorem eqIntS_l0 (a b : List Int) (hl : a.length = b.length) (hb : a.length ≤ 4611686018427387904) :
    ∀ (d i : Nat), a.length - i = d → i ≤ a.length → Ev (fun k => laws_eqIntS.l0 k a b (i : Int)) (decide (a.drop i = b.drop i)) := by
  intro d
  induction d with
  | zero =>
    intro i hd hi
    refine Ev_succ ?_
    simp only [laws_eqIntS.l0]
    simp only [if_neg (show ¬ (i : Int) < (a.length : Int) by omega)]
    exact Ev_cast (Ev.now _) (by rw [List.drop_eq_nil_of_le (by omega), List.drop_eq_nil_of_le (by omega)]; simp)
  | succ d ih =>
    intro i hd hi
    refine Ev_succ ?_
    simp only [laws_eqIntS.l0]
    simp only [if_pos (show (i : Int) < (a.length : Int) by omega), if_pos (show 0 ≤ (i : Int) by omega), if_pos (show (i : Int) < (b.length : Int) by omega)]
    rw [rd_lt (by omega), rd_lt (by omega), w64 (by omega) (by omega), drop_cons (l := a) (by omega), drop_cons (l := b) (i := i) (by omega)]
    by_cases e : a[i]'(by omega) = b[i]'(by omega)
    · simp only [if_pos e]
      exact Ev_cast (ih (i + 1) (by omega) (by omega)) (decide_eq_decide.2 (by rw [List.cons.injEq]; exact ⟨fun h => ⟨e, h⟩, fun h => h.2⟩))
    · simp only [if_neg e]
      exact Ev_cast (Ev.now _) (Eq.symm (decide_eq_false (by rw [List.cons.injEq]; exact fun h => e h.1)))
theorem eqIntS_ev (a b : List Int) (ha : a.length ≤ 4611686018427387904) : Ev (fun k => laws_eqIntS.f k a b) (decide (a = b)) := by
  unfold laws_eqIntS.f
  by_cases h : a.length = b.length
  · simp only [if_pos (show (a.length : Int) = (b.length : Int) by omega)]
    exact eqIntS_l0 a b h ha a.length 0 (by omega) (by omega)
  · simp only [if_neg (show ¬ (a.length : Int) = (b.length : Int) by omega)]
    exact Ev_cast (Ev.now _) (by simp; intro e; exact h (by rw [e]))
theorem eqIntS_same (a b : List Int) (ha : a.length ≤ 4611686018427387904) (e : a = b) : Ev (fun k => laws_eqIntS.f k a b) true := Ev_cast (eqIntS_ev a b ha) (by simp [e])
theorem toIntS_l0 (l : List Int) : ∀ (d i : Nat) (o : List Int), l.length - i = d → i ≤ l.length → l.length ≤ 1152921504606846976 → o.length = l.length → o.take i = l.take i →
    Ev (fun k => laws_toIntS.l0 k l o (i : Int)) l := by
  intro d
  induction d with
  | zero =>
    intro i o hd hi hl ho ht
    refine Ev_succ ?_
    simp only [laws_toIntS.l0]
    simp only [if_neg (show ¬ (i : Int) < (l.length : Int) by omega)]
    exact Ev_cast (Ev.now _) (by rw [List.take_of_length_le (by omega), List.take_of_length_le (by omega)] at ht; exact ht)
  | succ d ih =>
    intro i o hd hi hl ho ht
    refine Ev_succ ?_
    simp only [laws_toIntS.l0]
    simp only [if_pos (show (i : Int) < (l.length : Int) by omega), if_pos (show 0 ≤ (i : Int) by omega), if_pos (show (i : Int) < (o.length : Int) by omega)]
    rw [rd_lt (by omega), w64 (by omega) (by omega)]
    refine ih (i + 1) _ (by omega) (by omega) hl (by simpa using ho) ?_
    apply List.ext_getElem?
    intro j
    rw [List.getElem?_take, List.getElem?_take]
    by_cases h1 : j < i
    · have := congrArg (fun x => x[j]?) ht
      simp only [List.getElem?_take, if_pos h1] at this
      rw [if_pos (by omega), if_pos (by omega), List.getElem?_set]
      simp only [Int.toNat_natCast]
      rw [if_neg (by omega), this]
    · by_cases h2 : j = i
      · subst h2
        rw [if_pos (by omega), if_pos (by omega)]
        simp [show j < l.length by omega, show j < o.length by omega]
      · rw [if_neg (by omega), if_neg (by omega)]
theorem toIntS_ev (l : List Int) (hl : l.length ≤ 35184372088832) : Ev (fun k => laws_toIntS.f k l) l := by
  unfold laws_toIntS.f
  simp only [if_pos (show 0 ≤ (l.length : Int) by omega), Int.toNat_natCast, if_pos hl]
  exact toIntS_l0 l l.length 0 _ (by omega) (by omega) (by omega) (by simp) (by simp)
/-- What a list of whole numbers reads once it was marked from m on. -/
def imarkedFrom (m : Int) : Nat → List Int
  | 0 => []
  | n + 1 => m :: imarkedFrom (m + 1) n
theorem imarkedFrom_length (n : Nat) : ∀ m, (imarkedFrom m n).length = n := by
  induction n with
  | zero => intro m; rfl
  | succ n ih => intro m; simp [imarkedFrom, ih]
theorem markIntS_l0 (m : Int) : ∀ (d i : Nat) (l : List Int), l.length - i = d → i ≤ l.length → l.length ≤ 1152921504606846976 → 0 ≤ m → m ≤ 1152921504606846976 + i →
    Ev (fun k => laws_markIntS.l0 k l m (i : Int)) (m + d, l.take i ++ imarkedFrom m d) := by
  intro d
  induction d generalizing m with
  | zero =>
    intro i l hd hi hl h0 hm
    refine Ev_succ ?_
    simp only [laws_markIntS.l0]
    simp only [if_neg (show ¬ (i : Int) < (l.length : Int) by omega)]
    exact Ev_cast (Ev.now _) (by rw [List.take_of_length_le (by omega)]; simp [imarkedFrom])
  | succ d ih =>
    intro i l hd hi hl h0 hm
    refine Ev_succ ?_
    simp only [laws_markIntS.l0]
    simp only [if_pos (show (i : Int) < (l.length : Int) by omega), if_pos (show 0 ≤ (i : Int) by omega)]
    rw [w64 (n := m + 1) (by omega) (by omega), w64 (by omega) (by omega)]
    refine Ev_cast (ih (m + 1) (i + 1) (l.set i (m)) (by simp; omega) (by simp; omega) (by simpa using hl) (by omega) (by omega)) ?_
    refine Prod.ext (by simp; omega) ?_
    show (l.set i (m)).take (i + 1) ++ imarkedFrom (m + 1) d = l.take i ++ imarkedFrom m (d + 1)
    have : (l.set i (m)).take (i + 1) = l.take i ++ [m] := by
      apply List.ext_getElem?
      intro j
      rw [List.getElem?_take, List.getElem?_append, List.getElem?_set]
      have : (l.take i).length = i := by simp; omega
      rw [this]
      by_cases h1 : j < i
      · rw [if_pos (by omega), if_neg (by omega), if_pos h1, List.getElem?_take, if_pos h1]
      · by_cases h2 : j = i
        · subst h2; simp; omega
        · rw [if_neg (by omega), if_neg h1]; simp; omega
    rw [this]; simp [imarkedFrom]
theorem markIntS_ev (l : List Int) (m : Int) (hl : l.length ≤ 1152921504606846976) (h0 : 0 ≤ m) (hm : m ≤ 1152921504606846976) : Ev (fun k => laws_markIntS.f k l m) (m + l.length, imarkedFrom m l.length) := by
  unfold laws_markIntS.f
  exact Ev_cast (markIntS_l0 m l.length 0 l (by omega) (by omega) hl h0 (by omega)) (by simp)
theorem heldIntS_l0 : ∀ (n : Nat) (m : Int) (i : Nat) (p : List Int), p.length = i → i + n ≤ 1152921504606846976 → 0 ≤ m → m ≤ 1152921504606846976 + i →
    Ev (fun k => laws_heldIntS.l0 k (p ++ imarkedFrom m n) m (i : Int)) (m + n) := by
  intro n
  induction n with
  | zero =>
    intro m i p hp hl h0 hm
    refine Ev_succ ?_
    simp only [laws_heldIntS.l0]
    simp only [imarkedFrom, List.append_nil, if_neg (show ¬ (i : Int) < (p.length : Int) by omega)]
    exact Ev_cast (Ev.now _) (by simp)
  | succ n ih =>
    intro m i p hp hl h0 hm
    refine Ev_succ ?_
    simp only [laws_heldIntS.l0]
    have hlen : (p ++ imarkedFrom m (n + 1)).length = i + n + 1 := by rw [List.length_append, imarkedFrom_length]; omega
    have hr : rd (p ++ imarkedFrom m (n + 1)) (i : Int) = m := by
      rw [rd_lt (by omega)]; simp [imarkedFrom, hp]
    simp only [if_pos (show (i : Int) < ((p ++ imarkedFrom m (n + 1)).length : Int) by omega), if_pos (show 0 ≤ (i : Int) by omega), hr, if_true]
    rw [w64 (n := m + 1) (by omega) (by omega), w64 (by omega) (by omega)]
    have e : p ++ imarkedFrom m (n + 1) = (p ++ [m]) ++ imarkedFrom (m + 1) n := by simp [imarkedFrom]
    rw [e]
    exact Ev_cast (ih (m + 1) (i + 1) (p ++ [m]) (by simp [hp]) (by omega) (by omega) (by omega)) (by omega)
theorem heldIntS_ev (m : Int) (n : Nat) (hl : n ≤ 1152921504606846976) (h0 : 0 ≤ m) (hm : m ≤ 1152921504606846976) : Ev (fun k => laws_heldIntS.f k (imarkedFrom m n) m) (m + n) := by
  unfold laws_heldIntS.f
  exact heldIntS_l0 n m 0 [] rfl (by omega) h0 (by omega)
/-! ### sorted and compacted: whether a number stands twice -/
theorem compact_len (t : List Int) (hs : t.Pairwise (· ≤ ·)) : (Lib.compact t).length = t.length ↔ t.Nodup := by
  have hg : ∀ j (hj : j < t.length), t.toArray[j]! = t[j] := fun j hj => by simp [hj]
  have h1 : (Lib.compact t).length = t.length ↔ ∀ j, j < t.length → Lib.keeps t.toArray j = true := by
    unfold Lib.compact Lib.compactUpTo
    rw [List.length_map]
    have := List.length_filter_eq_length_iff (p := Lib.keeps t.toArray) (l := List.range t.length)
    rw [List.length_range] at this
    rw [this]
    simp
  rw [h1, List.Nodup, List.pairwise_iff_getElem]
  rw [List.pairwise_iff_getElem] at hs
  constructor
  · intro h
    have adj : ∀ j (hj : j + 1 < t.length), t[j] < t[j + 1] := by
      intro j hj
      have hk := h (j + 1) hj
      unfold Lib.keeps at hk
      have hk2 := (of_decide_eq_true hk).resolve_left (by omega)
      rw [hg (j + 1) hj, show j + 1 - 1 = j by omega, hg j (by omega)] at hk2
      have := hs j (j + 1) (by omega) hj (by omega)
      omega
    intro i j hi hj hij
    have hj2 : j - 1 + 1 < t.length := by omega
    have a1 := adj (j - 1) hj2
    have e : j - 1 + 1 = j := by omega
    simp only [e] at a1
    by_cases hlt : i < j - 1
    · have := hs i (j - 1) hi (by omega) hlt
      show t[i] ≠ t[j]
      omega
    · have : i = j - 1 := by omega
      subst this
      show t[j - 1] ≠ t[j]
      omega
  · intro h j hj
    unfold Lib.keeps
    refine decide_eq_true ?_
    by_cases h0 : j = 0
    · exact .inl h0
    · right
      rw [hg j hj, hg (j - 1) (by omega)]
      exact fun e => h (j - 1) j (by omega) hj (by omega) e.symm
theorem sorted_compact (s : List Int) : (Lib.compact (s.mergeSort fun x y => decide (x ≤ y))).length = s.length ↔ s.Nodup := by
  have hp := List.mergeSort_perm s (fun x y => decide (x ≤ y))
  have hs : (s.mergeSort fun x y => decide (x ≤ y)).Pairwise (· ≤ ·) := by
    have := List.pairwise_mergeSort (le := fun x y : Int => decide (x ≤ y)) (fun a b c h1 h2 => by simp only [decide_eq_true_eq] at *; omega) (fun a b => by simp only [Bool.or_eq_true, decide_eq_true_eq]; omega) s
    exact this.imp (fun h => by simpa using h)
  rw [← hp.nodup_iff, ← compact_len _ hs, hp.length_eq]
/-! ### KeepBlock -/
theorem nd_iff : ∀ (l s : List Int), spec_KeepBlock.nd s l = true ↔ (∀ x ∈ l, x ∉ s) ∧ l.Nodup
  | [], s => by simp [spec_KeepBlock.nd]
  | x :: t, s => by
    simp only [spec_KeepBlock.nd]
    by_cases h : s.contains x = true
    · rw [if_pos h]
      rw [List.contains_iff_mem] at h
      constructor
      · intro h2; cases h2
      · intro h2; exact absurd h (h2.1 x (List.mem_cons_self ..))
    · rw [if_neg h, nd_iff t (s ++ [x])]
      rw [List.contains_iff_mem] at h
      simp only [List.mem_append, List.mem_singleton, List.nodup_cons, List.mem_cons]
      constructor
      · rintro ⟨h1, h2⟩
        refine ⟨fun y hy => ?_, fun hx => h1 x hx (Or.inr (Or.inl rfl)), h2⟩
        rcases hy with rfl | hy
        · exact h
        · exact fun hs => h1 y hy (Or.inl hs)
      · rintro ⟨h1, h2, h3⟩
        refine ⟨fun y hy hs => ?_, h3⟩
        rcases hs with hs | hs | hs
        · exact h1 y (Or.inr hy) hs
        · exact h2 (hs ▸ hy)
        · cases hs
theorem nd_nil (l : List Int) : spec_KeepBlock.nd [] l = decide l.Nodup := by
  have := nd_iff l []
  simp only [List.not_mem_nil, not_false_eq_true, implies_true, true_and] at this
  cases h : spec_KeepBlock.nd [] l with
  | true => exact (decide_eq_true (this.1 h)).symm
  | false => exact (decide_eq_false (fun h2 => by rw [this.2 h2] at h; cases h)).symm
def keepR (l : List Int) (m b : Int) : List Int × Int × Bool :=
  if ((1 ≤ m ∧ m ≤ 50) ∧ (l.length : Int) ≤ m) ∧ l.Nodup then (if ((l.filter (fun x => x != b) ++ [b]).length : Int) > m then ((l.filter (fun x => x != b) ++ [b]).drop 1, (l.filter (fun x => x != b) ++ [b]).headD 0, true) else (l.filter (fun x => x != b) ++ [b], -1, true)) else ([], 0, false)
theorem keepR_len (l : List Int) (m b : Int) (hl : l.length ≤ 1048576) : (keepR l m b).1.length ≤ 1048577 := by
  unfold keepR
  have := List.length_filter_le (fun x => x != b) l
  split
  · split
    · simp; omega
    · simp; omega
  · simp
theorem spec_Keep_eq (l : List Int) (m b : Int) (hl : l.length ≤ 1048576) : spec_KeepBlock.f l m b = some (keepR l m b) := by
  unfold spec_KeepBlock.f keepR
  rw [l1In_eq, Option.bind_some]
  by_cases h1 : 1 ≤ m ∧ m ≤ 50
  · rw [decide_eq_true h1, if_pos rfl]
    by_cases h2 : (l.length : Int) > m
    · rw [if_pos h2, if_neg (fun h => by have := h.1.2; omega)]
    · rw [if_neg h2, if_pos hl, nd_nil]
      by_cases h3 : l.Nodup
      · rw [decide_eq_true h3, if_pos rfl, if_pos (show ((1 ≤ m ∧ m ≤ 50) ∧ (l.length : Int) ≤ m) ∧ l.Nodup from ⟨⟨h1, by omega⟩, h3⟩)]
        unfold spec_KeepBlock.o spec_KeepBlock.hd
        split <;> rfl
      · rw [decide_eq_false h3, if_neg (by decide), if_neg (fun h => h3 h.2)]
  · rw [decide_eq_false h1, if_neg (by decide), if_neg (fun h => h1 h.1.1)]
theorem index_ev (l : List Int) (b : Int) (hl : l.length ≤ 1048576) : ∃ r, Ev (fun k => slices_Index_int_int.f k l b) r ∧ ((r = -1 ∧ b ∉ l) ∨ ∃ i : Nat, ∃ h : i < l.length, r = (i : Int) ∧ l[i] = b) := by
  have loop : ∀ (d i : Nat), l.length - i = d → i ≤ l.length → (∀ j (h : j < l.length), j < i → l[j] ≠ b) → ∃ r, Ev (fun k => slices_Index_int_int.l0 k l b (l.length : Int) (i : Int)) r ∧ ((r = -1 ∧ b ∉ l) ∨ ∃ i : Nat, ∃ h : i < l.length, r = (i : Int) ∧ l[i] = b) := by
    intro d
    induction d with
    | zero =>
      intro i hd hi hn
      refine ⟨-1, Ev_succ ?_, Or.inl ⟨rfl, fun hm => ?_⟩⟩
      · simp only [slices_Index_int_int.l0]
        simp only [if_neg (show ¬ (i : Int) < (l.length : Int) by omega)]
        exact Ev.now _
      · obtain ⟨j, hj, he⟩ := List.mem_iff_getElem.1 hm
        exact hn j hj (by omega) he
    | succ d ih =>
      intro i hd hi hn
      by_cases he : b = l[i]'(by omega)
      · refine ⟨(i : Int), Ev_succ ?_, Or.inr ⟨i, by omega, rfl, he.symm⟩⟩
        simp only [slices_Index_int_int.l0]
        simp only [if_pos (show (i : Int) < (l.length : Int) by omega), if_pos (show 0 ≤ (i : Int) by omega)]
        rw [rd_lt (show i < l.length by omega)]
        simp only [if_pos he]
        exact Ev.now _
      · obtain ⟨r, hr, hr2⟩ := ih (i + 1) (by omega) (by omega) (fun j h hj => by
          by_cases e : j = i
          · subst e; exact fun h2 => he h2.symm
          · exact hn j h (by omega))
        refine ⟨r, Ev_succ ?_, hr2⟩
        simp only [slices_Index_int_int.l0]
        simp only [if_pos (show (i : Int) < (l.length : Int) by omega), if_pos (show 0 ≤ (i : Int) by omega)]
        rw [rd_lt (show i < l.length by omega), w64 (by omega) (by omega)]
        simp only [if_neg he]
        exact hr
  unfold slices_Index_int_int.f
  exact loop l.length 0 (by omega) (by omega) (fun j h hj => by omega)
theorem filter_out {l : List Int} (hn : l.Nodup) {i : Nat} (hi : i < l.length) {b : Int} (hb : l[i] = b) : l.take i ++ l.drop (i + 1) = l.filter (fun x => x != b) := by
  have hl : l = l.take i ++ b :: l.drop (i + 1) := by rw [← hb, ← List.drop_eq_getElem_cons hi, List.take_append_drop]
  have hn2 := hn
  rw [hl, List.nodup_append] at hn2
  obtain ⟨_, h2, h3⟩ := hn2
  rw [List.nodup_cons] at h2
  conv => rhs; rw [hl]
  rw [List.filter_append, List.filter_cons, if_neg (by simp), List.filter_eq_self.2 (fun x hx => ?_), List.filter_eq_self.2 (fun x hx => ?_)]
  · have : x ≠ b := fun e => h2.1 (e ▸ hx)
    simpa using this
  · have := h3 x hx b (List.mem_cons_self ..)
    simpa using this
theorem tail_eq (k : Nat) (o : List Int) (m b : Int) (ho : o.length ≤ 1048576) : impl_KeepBlock.tail k o m b = some (if ((o ++ [b]).length : Int) > m then ((o ++ [b]).drop 1, (o ++ [b]).headD 0, true) else (o ++ [b], -1, true)) := by
  unfold impl_KeepBlock.tail impl_KeepBlock.hd slices_Clone_int_int.f
  rw [if_pos (show ((o ++ [b]).drop 1).length < 17592186044416 by rw [List.length_drop, List.length_append]; simp; omega), Option.bind_some]
  split <;> rfl
theorem impl_Keep_ev (l : List Int) (m b : Int) (hl : l.length ≤ 1048576) : Ev (fun k => impl_KeepBlock.f k l m b) (keepR l m b) := by
  unfold impl_KeepBlock.f slices_Sort_int_int.f slices_Compact_int_int.f
  have hsc := sorted_compact l
  have hsl : (l.mergeSort fun x y => decide (x ≤ y)).length = l.length := List.length_mergeSort _
  simp only [if_pos hl, if_pos (show l.length < 4611686018427387904 by omega), Option.bind_some]
  generalize (l.mergeSort fun x y => decide (x ≤ y)) = so at hsc hsl
  by_cases h50 : (l.length : Int) > 50
  · simp only [if_pos h50]
    unfold keepR
    rw [if_neg (fun h => by have := h.1; omega)]
    exact Ev.now _
  · simp only [if_neg h50, if_pos (show so.length ≤ 9223372036854775807 by omega), Option.bind_some]
    by_cases hnd : l.Nodup
    · have hc := hsc.2 hnd
      simp only [if_pos (show ((Lib.compact so).length : Int) = (l.length : Int) by omega), within_eq, Option.bind_some]
      by_cases h1 : 1 ≤ m ∧ m ≤ 50
      · simp only [decide_eq_true h1, if_true]
        by_cases h2 : (l.length : Int) > m
        · simp only [if_pos h2]
          unfold keepR
          rw [if_neg (fun h => by have := h.1.2; omega)]
          exact Ev.now _
        · simp only [if_neg h2]
          unfold keepR
          rw [if_pos (show ((1 ≤ m ∧ m ≤ 50) ∧ (l.length : Int) ≤ m) ∧ l.Nodup from ⟨⟨h1, by omega⟩, hnd⟩)]
          unfold impl_KeepBlock.g
          obtain ⟨r, hr, hr2⟩ := index_ev l b hl
          refine Ev.bind (a := l) (Ev_some (by unfold slices_Clone_int_int.f; rw [if_pos (by omega)])) (Ev.bind hr ?_)
          simp only [if_pos hl]
          rcases hr2 with ⟨rfl, hno⟩ | ⟨i, hi, rfl, hb⟩
          · simp only [if_neg (show ¬ (-1 : Int) ≥ 0 by omega), tail_eq _ l m b hl]
            rw [List.filter_eq_self.2 (fun x hx => by have : x ≠ b := fun e => hno (e ▸ hx); simpa using this)]
            exact Ev.now _
          · simp only [if_pos (show (i : Int) ≥ 0 by omega)]
            have hd : slices_Delete_int_int.f l (i : Int) (wrap64 ((i : Int) + 1)) = some (l.filter (fun x => x != b)) := by
              unfold slices_Delete_int_int.f
              rw [w64 (by omega) (by omega), if_pos ⟨by omega, by omega, by omega, by omega⟩, Int.toNat_natCast, show ((i : Int) + 1).toNat = i + 1 by omega, filter_out hnd hi hb]
            have hfl := List.length_filter_le (fun x => x != b) l
            refine Ev.bind (Ev_some hd) ?_
            simp only [if_pos (show (l.filter (fun x => x != b)).length ≤ 1048576 by omega), tail_eq _ _ m b (show (l.filter (fun x => x != b)).length ≤ 1048576 by omega)]
            exact Ev.now _
      · simp only [decide_eq_false h1, Bool.false_eq_true, if_false]
        unfold keepR
        rw [if_neg (fun h => h1 h.1.1)]
        exact Ev.now _
    · have hc : ¬ ((Lib.compact so).length : Int) = (l.length : Int) := fun h => hnd (hsc.1 (by omega))
      simp only [if_neg hc]
      unfold keepR
      rw [if_neg (fun h => hnd h.2)]
      exact Ev.now _
theorem FnExactKeepBlock : laws_FnExactKeepBlock.Pure := by
  intro l m b _ _ _
  refine Ev.rounds ?_
  unfold laws_FnExactKeepBlock.f
  by_cases hbig : (1048576 : Int) < (l.length : Int)
  · simp only [if_pos hbig]; exact Ev.now _
  · simp only [if_neg hbig]
    have hl : l.length ≤ 1048576 := by omega
    have hT := toIntS_ev l (by omega)
    have hS := spec_Keep_eq l m b hl
    have hI := impl_Keep_ev l m b hl
    have hlen := keepR_len l m b hl
    generalize keepR l m b = r at hS hI hlen
    have hE := eqIntS_same r.1 r.1 (by omega) rfl
    have hE2 := eqIntS_same l l (by omega) rfl
    have hM := markIntS_ev l 1 (by omega) (by omega) (by omega)
    have hM2 := markIntS_ev r.1 1 (by omega) (by omega) (by omega)
    have hH := heldIntS_ev 1 r.1.length (by omega) (by omega) (by omega)
    refine Ev.bind hT (Ev.bind (Ev_some hS) (Ev.bind hT (Ev.bind hI (Ev.bind hE (Ev.bind hT (Ev.bind hE2 (Ev.bind hM (Ev.bind hE (Ev.bind hM2 ?_)))))))))
    refine Ev.bind hH (Ev.bind hT (Ev.bind hI (Ev.bind hE (Ev.bind hH ?_))))
    exact Ev_some (if_pos ⟨rfl, rfl, rfl, rfl, by simp only; omega, rfl, rfl, rfl, by omega, rfl, rfl, rfl, rfl, by omega, rfl⟩)
end Go.Proofs.Ytadkabbeghpgcaa.Pure
