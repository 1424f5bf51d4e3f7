/- The law FnExactReadLog answers true, for all bytes. -/
import Derived.Test.YtolpkckaijeahaaPFnExactReadLogx7
import Derived.Test.YtolpkckaijeahaaPFnExactReadLogx7
set_option linter.unusedVariables false
set_option linter.unusedSimpArgs false
namespace Go.Proofs.Ytolpkckaijeahaa.Pure
open Go.RowKit Go.Proofs.Ytolpkckaijeahaa.PFnExactReadLog Go.Proofs.YtolpkckaijeahaaW Go.Proofs.YtolpkckaijeahaaW.PrintWords Go.Proofs.YtolpkckaijeahaaW.PrintLast Go.Proofs.YtolpkckaijeahaaW.PrintMore
/-! ### base: rounds, numbers -/
theorem Ev_succ {α : Type} {g : Nat → Option α} {r : α} (h : Ev (fun k => g (k + 1)) r) : Ev g r := Ev.step (fun _ => rfl) h
theorem Ev_some {α : Type} {o : Option α} {r : α} (h : o = some r) : Ev (fun _ => o) r := ⟨0, fun _ _ => h⟩
theorem Ev_cast {α : Type} {g : Nat → Option α} {r q : α} (h : Ev g r) (e : r = q) : Ev g q := e ▸ h
theorem w64 {n : Int} (h : -9223372036854775808 ≤ n) (h' : n ≤ 9223372036854775807) : wrap64 n = n := by unfold wrap64; omega
theorem wf_i64 {n : Int} (h : (Lit.int .i64 n).wf = true) : -9223372036854775808 ≤ n ∧ n ≤ 9223372036854775807 := by
  simp only [Lit.wf, IntKind.min, IntKind.max, IntKind.signed, IntKind.bits, Bool.and_eq_true, decide_eq_true_eq, if_true] at h
  omega
theorem wf_u64 {n : Int} (h : (Lit.int .u64 n).wf = true) : 0 ≤ n ∧ n ≤ 18446744073709551615 := by
  simp only [Lit.wf, IntKind.min, IntKind.max, IntKind.signed, IntKind.bits, Bool.and_eq_true, decide_eq_true_eq, if_true] at h
  simp at h
  omega
theorem wf_u8 {n : Int} (h : (Lit.int .u8 n).wf = true) : 0 ≤ n ∧ n ≤ 255 := by
  simp only [Lit.wf, IntKind.min, IntKind.max, IntKind.signed, IntKind.bits, Bool.and_eq_true, decide_eq_true_eq, if_true] at h
  simp at h
  omega
theorem wrap_u64 (n : Int) : IntKind.u64.wrap n = n % 18446744073709551616 := by simp [IntKind.wrap, IntKind.bits, IntKind.signed]
theorem wrap_u32 (n : Int) : IntKind.u32.wrap n = n % 4294967296 := by simp [IntKind.wrap, IntKind.bits, IntKind.signed]
/-- A list of bytes. -/
def Bytes (l : List Int) : Prop := ∀ x ∈ l, 0 ≤ x ∧ x ≤ 255
theorem Bytes.wf {l : List Int} (h : ∀ x ∈ l, (Lit.int .u8 x).wf = true) : Bytes l := fun x hx => wf_u8 (h x hx)
theorem Bytes.nil : Bytes [] := fun x hx => by cases hx
theorem Bytes.app {a b : List Int} (h : Bytes a) (k : Bytes b) : Bytes (a ++ b) := fun x hx => by
  rcases List.mem_append.1 hx with h' | h'
  · exact h x h'
  · exact k x h'
theorem Bytes.one {x : Int} (h : 0 ≤ x) (h' : x ≤ 255) : Bytes [x] := fun y hy => (List.mem_singleton.1 hy) ▸ ⟨h, h'⟩
theorem Bytes.sub {a b : List Int} (h : Bytes a) (k : ∀ x ∈ b, x ∈ a) : Bytes b := fun x hx => h x (k x hx)
theorem Bytes.take {a : List Int} (h : Bytes a) (n : Nat) : Bytes (a.take n) := h.sub fun _ hx => List.mem_of_mem_take hx
theorem Bytes.drop {a : List Int} (h : Bytes a) (n : Nat) : Bytes (a.drop n) := h.sub fun _ hx => List.mem_of_mem_drop hx
theorem rd_lt {l : List Int} {i : Nat} (h : i < l.length) : rd l (i : Int) = l[i] := by simp [rd, h]
theorem Bytes.rd {l : List Int} (h : Bytes l) (i : Int) : 0 ≤ rd l i ∧ rd l i ≤ 255 := by
  unfold PrintWords.rd
  by_cases hi : i.toNat < l.length
  · rw [List.getD_eq_getElem?_getD, List.getElem?_eq_getElem hi]; exact h _ (List.getElem_mem hi)
  · rw [List.getD_eq_getElem?_getD, List.getElem?_eq_none (by omega)]; simp
theorem drop_cons {α : Type} {l : List α} {i : Nat} (h : i < l.length) : l.drop i = l[i] :: l.drop (i + 1) := List.drop_eq_getElem_cons h
/-! ### the laws' own words on bytes -/
theorem eqByteS_l0 (a b : List Int) (hl : a.length = b.length) (hb : a.length ≤ 4611686018427387904) :
    ∀ (d i : Nat), a.length - i = d → i ≤ a.length → Ev (fun k => laws_eqByteS.l0 k a b (i : Int)) (decide (a.drop i = b.drop i)) := by
  intro d
  induction d with
  | zero =>
    intro i hd hi
    refine Ev_succ ?_
    simp only [laws_eqByteS.l0]
    simp only [if_neg (show ¬ (i : Int) < (a.length : Int) by omega)]
    exact Ev_cast (Ev.now _) (by rw [List.drop_eq_nil_of_le (by omega), List.drop_eq_nil_of_le (by omega)]; simp)
  | succ d ih =>
    intro i hd hi
    refine Ev_succ ?_
    simp only [laws_eqByteS.l0]
    simp only [if_pos (show (i : Int) < (a.length : Int) by omega), if_pos (show 0 ≤ (i : Int) by omega), if_pos (show (i : Int) < (b.length : Int) by omega)]
    rw [rd_lt (by omega), rd_lt (by omega), w64 (by omega) (by omega), drop_cons (l := a) (by omega), drop_cons (l := b) (i := i) (by omega)]
    by_cases e : a[i]'(by omega) = b[i]'(by omega)
    · simp only [if_pos e]
      exact Ev_cast (ih (i + 1) (by omega) (by omega)) (decide_eq_decide.2 (by rw [List.cons.injEq]; exact ⟨fun h => ⟨e, h⟩, fun h => h.2⟩))
    · simp only [if_neg e]
      exact Ev_cast (Ev.now _) (Eq.symm (decide_eq_false (by rw [List.cons.injEq]; exact fun h => e h.1)))
theorem eqByteS_ev (a b : List Int) (ha : a.length ≤ 4611686018427387904) : Ev (fun k => laws_eqByteS.f k a b) (decide (a = b)) := by
  unfold laws_eqByteS.f
  by_cases h : a.length = b.length
  · simp only [if_pos (show (a.length : Int) = (b.length : Int) by omega)]
    exact eqByteS_l0 a b h ha a.length 0 (by omega) (by omega)
  · simp only [if_neg (show ¬ (a.length : Int) = (b.length : Int) by omega)]
    exact Ev_cast (Ev.now _) (by simp; intro e; exact h (by rw [e]))
theorem eqByteS_same (a b : List Int) (ha : a.length ≤ 4611686018427387904) (e : a = b) : Ev (fun k => laws_eqByteS.f k a b) true := Ev_cast (eqByteS_ev a b ha) (by simp [e])
theorem toByteS_l0 (l : List Int) : ∀ (d i : Nat) (o : List Int), l.length - i = d → i ≤ l.length → l.length ≤ 1152921504606846976 → o.length = l.length → o.take i = l.take i →
    Ev (fun k => laws_toByteS.l0 k l o (i : Int)) l := by
  intro d
  induction d with
  | zero =>
    intro i o hd hi hl ho ht
    refine Ev_succ ?_
    simp only [laws_toByteS.l0]
    simp only [if_neg (show ¬ (i : Int) < (l.length : Int) by omega)]
    exact Ev_cast (Ev.now _) (by rw [List.take_of_length_le (by omega), List.take_of_length_le (by omega)] at ht; exact ht)
  | succ d ih =>
    intro i o hd hi hl ho ht
    refine Ev_succ ?_
    simp only [laws_toByteS.l0]
    simp only [if_pos (show (i : Int) < (l.length : Int) by omega), if_pos (show 0 ≤ (i : Int) by omega), if_pos (show (i : Int) < (o.length : Int) by omega)]
    rw [rd_lt (by omega), w64 (by omega) (by omega)]
    refine ih (i + 1) _ (by omega) (by omega) hl (by simpa using ho) ?_
    apply List.ext_getElem?
    intro j
    rw [List.getElem?_take, List.getElem?_take]
    by_cases h1 : j < i
    · have := congrArg (fun x => x[j]?) ht
      simp only [List.getElem?_take, if_pos h1] at this
      rw [if_pos (by omega), if_pos (by omega), List.getElem?_set]
      simp only [Int.toNat_natCast]
      rw [if_neg (by omega), this]
    · by_cases h2 : j = i
      · subst h2
        rw [if_pos (by omega), if_pos (by omega)]
        simp [show j < l.length by omega, show j < o.length by omega]
      · rw [if_neg (by omega), if_neg (by omega)]
theorem toByteS_ev (l : List Int) (hl : l.length ≤ 281474976710656) : Ev (fun k => laws_toByteS.f k l) l := by
  unfold laws_toByteS.f
  simp only [if_pos (show 0 ≤ (l.length : Int) by omega), Int.toNat_natCast, if_pos hl]
  exact toByteS_l0 l l.length 0 _ (by omega) (by omega) (by omega) (by simp) (by simp)
/-- What a list reads once it was marked from m on. -/
def markedFrom (m : Int) : Nat → List Int
  | 0 => []
  | n + 1 => (m % 256) :: markedFrom (m + 1) n
theorem markedFrom_length (n : Nat) : ∀ m, (markedFrom m n).length = n := by
  induction n with
  | zero => intro m; rfl
  | succ n ih => intro m; simp [markedFrom, ih]
theorem markByteS_l0 (m : Int) : ∀ (d i : Nat) (l : List Int), l.length - i = d → i ≤ l.length → l.length ≤ 1152921504606846976 → 0 ≤ m → m ≤ 1152921504606846976 + i →
    Ev (fun k => laws_markByteS.l0 k l m (i : Int)) (m + d, l.take i ++ markedFrom m d) := by
  intro d
  induction d generalizing m with
  | zero =>
    intro i l hd hi hl h0 hm
    refine Ev_succ ?_
    simp only [laws_markByteS.l0]
    simp only [if_neg (show ¬ (i : Int) < (l.length : Int) by omega)]
    exact Ev_cast (Ev.now _) (by rw [List.take_of_length_le (by omega)]; simp [markedFrom])
  | succ d ih =>
    intro i l hd hi hl h0 hm
    refine Ev_succ ?_
    simp only [laws_markByteS.l0]
    simp only [if_pos (show (i : Int) < (l.length : Int) by omega), if_pos (show 0 ≤ (i : Int) by omega)]
    rw [w64 (n := m + 1) (by omega) (by omega), w64 (by omega) (by omega)]
    refine Ev_cast (ih (m + 1) (i + 1) (l.set i (m % 256)) (by simp; omega) (by simp; omega) (by simpa using hl) (by omega) (by omega)) ?_
    refine Prod.ext (by simp; omega) ?_
    show (l.set i (m % 256)).take (i + 1) ++ markedFrom (m + 1) d = l.take i ++ markedFrom m (d + 1)
    have : (l.set i (m % 256)).take (i + 1) = l.take i ++ [m % 256] := by
      apply List.ext_getElem?
      intro j
      rw [List.getElem?_take, List.getElem?_append, List.getElem?_set]
      have : (l.take i).length = i := by simp; omega
      rw [this]
      by_cases h1 : j < i
      · rw [if_pos (by omega), if_neg (by omega), if_pos h1, List.getElem?_take, if_pos h1]
      · by_cases h2 : j = i
        · subst h2; simp; omega
        · rw [if_neg (by omega), if_neg h1]; simp; omega
    rw [this]; simp [markedFrom]
theorem markByteS_ev (l : List Int) (m : Int) (hl : l.length ≤ 1152921504606846976) (h0 : 0 ≤ m) (hm : m ≤ 1152921504606846976) : Ev (fun k => laws_markByteS.f k l m) (m + l.length, markedFrom m l.length) := by
  unfold laws_markByteS.f
  exact Ev_cast (markByteS_l0 m l.length 0 l (by omega) (by omega) hl h0 (by omega)) (by simp)
theorem heldByteS_l0 : ∀ (n : Nat) (m : Int) (i : Nat) (p : List Int), p.length = i → i + n ≤ 1152921504606846976 → 0 ≤ m → m ≤ 1152921504606846976 + i →
    Ev (fun k => laws_heldByteS.l0 k (p ++ markedFrom m n) m (i : Int)) (m + n) := by
  intro n
  induction n with
  | zero =>
    intro m i p hp hl h0 hm
    refine Ev_succ ?_
    simp only [laws_heldByteS.l0]
    simp only [markedFrom, List.append_nil, if_neg (show ¬ (i : Int) < (p.length : Int) by omega)]
    exact Ev_cast (Ev.now _) (by simp)
  | succ n ih =>
    intro m i p hp hl h0 hm
    refine Ev_succ ?_
    simp only [laws_heldByteS.l0]
    have hlen : (p ++ markedFrom m (n + 1)).length = i + n + 1 := by rw [List.length_append, markedFrom_length]; omega
    have hr : rd (p ++ markedFrom m (n + 1)) (i : Int) = m % 256 := by
      rw [rd_lt (by omega)]; simp [markedFrom, hp]
    simp only [if_pos (show (i : Int) < ((p ++ markedFrom m (n + 1)).length : Int) by omega), if_pos (show 0 ≤ (i : Int) by omega), hr, if_true]
    rw [w64 (n := m + 1) (by omega) (by omega), w64 (by omega) (by omega)]
    have e : p ++ markedFrom m (n + 1) = (p ++ [m % 256]) ++ markedFrom (m + 1) n := by simp [markedFrom]
    rw [e]
    exact Ev_cast (ih (m + 1) (i + 1) (p ++ [m % 256]) (by simp [hp]) (by omega) (by omega) (by omega)) (by omega)
theorem heldByteS_ev (m : Int) (n : Nat) (hl : n ≤ 1152921504606846976) (h0 : 0 ≤ m) (hm : m ≤ 1152921504606846976) : Ev (fun k => laws_heldByteS.f k (markedFrom m n) m) (m + n) := by
  unfold laws_heldByteS.f
  exact heldByteS_l0 n m 0 [] rfl (by omega) h0 (by omega)
theorem within_eq (a b c : Int) : impl_within.f a b c = some (decide (b ≤ a ∧ a ≤ c)) := by
  unfold impl_within.f
  by_cases h : a ≥ b
  · rw [if_pos h]; simp; intro; omega
  · rw [if_neg h]; simp; intro; omega
theorem l1In_eq (a b c : Int) : spec_l1In.f a b c = some (decide (b ≤ a ∧ a ≤ c)) := by
  unfold spec_l1In.f
  by_cases h : a ≥ b
  · rw [if_pos h]; simp; intro; omega
  · rw [if_neg h]; simp; intro; omega
/-! ### texts as lists of bytes -/
theorem pw_toList_loop (s : ByteArray) : ∀ (d i : Nat) (r : List UInt8), s.size - i = d → i ≤ s.size → ByteArray.toList.loop s i r = r.reverse ++ s.data.toList.drop i := by
  intro d
  induction d with
  | zero =>
    intro i r hd hi
    rw [ByteArray.toList.loop, if_neg (by omega), List.drop_eq_nil_of_le (by simp; show s.data.size ≤ i; have : s.size = s.data.size := rfl; omega)]
    simp
  | succ d ih =>
    intro i r hd hi
    have hs : s.size = s.data.size := rfl
    rw [ByteArray.toList.loop, if_pos (by omega), ih (i + 1) _ (by omega) (by omega)]
    have : s.data.toList.drop i = s.get! i :: s.data.toList.drop (i + 1) := by
      rw [List.drop_eq_getElem_cons (by simp; omega)]
      congr 1
      simp [ByteArray.get!]
      rw [getElem!_pos s.data i (by omega)]
    rw [this]; simp
theorem toList_data (s : ByteArray) : s.toList = s.data.toList := by
  unfold ByteArray.toList
  rw [pw_toList_loop s s.size 0 [] (by omega) (by omega)]
  simp
theorem strOfNums_list (l : List Int) : (strOfNums l).toList = l.map fun n => UInt8.ofNat n.toNat := by
  rw [toList_data]; simp [strOfNums]
theorem bytes_map_inj : ∀ (a b : List Int), Bytes a → Bytes b → (a.map fun n => UInt8.ofNat n.toNat) = (b.map fun n => UInt8.ofNat n.toNat) → a = b := by
  intro a
  induction a with
  | nil => intro b _ _ h; cases b with
    | nil => rfl
    | cons _ _ => simp at h
  | cons x a ih =>
    intro b ha hb h
    cases b with
    | nil => simp at h
    | cons y b =>
      simp only [List.map_cons, List.cons.injEq] at h
      have h1 := ha x (by simp)
      have h2 := hb y (by simp)
      have h3 := congrArg UInt8.toNat h.1
      simp only [UInt8.toNat_ofNat'] at h3
      rw [ih b (fun z hz => ha z (by simp [hz])) (fun z hz => hb z (by simp [hz])) h.2]
      congr 1
      omega
theorem strOfNums_eq (a b : List Int) (ha : Bytes a) (hb : Bytes b) : ((strOfNums a).toList == (strOfNums b).toList) = decide (a = b) := by
  rw [strOfNums_list, strOfNums_list]
  by_cases h : a = b
  · subst h; simp
  · rw [decide_eq_false h, beq_eq_false_iff_ne]
    exact fun e => h (bytes_map_inj a b ha hb e)
/-! ### PutFixed, ReadFixed -/
def fixedB : Nat → Nat → List Int
  | _, 0 => []
  | n, m + 1 => fixedB (n / 256) m ++ [((n % 256 : Nat) : Int)]
theorem fixedB_length : ∀ (m n : Nat), (fixedB n m).length = m := by
  intro m
  induction m with
  | zero => intro n; rfl
  | succ m ih => intro n; simp [fixedB, ih]
theorem fixedB_bytes : ∀ (m n : Nat), Bytes (fixedB n m) := by
  intro m
  induction m with
  | zero => intro n; exact Bytes.nil
  | succ m ih => intro n; exact (ih _).app (Bytes.one (by omega) (by omega))
theorem two_pow_8 (j : Nat) : (2 : Int) ^ (8 * j) = 256 ^ j := by rw [Int.pow_mul]; rfl
theorem shr8 (n j : Nat) (hj : j ≤ 8) : shr .i64 (n : Int) (8 * (j : Int)) = ((n / 256 ^ j : Nat) : Int) := by
  unfold shr
  rw [show (min (8 * (j : Int)).toNat IntKind.i64.bits) = 8 * j by simp [IntKind.bits]; omega, two_pow_8, Int.natCast_ediv, Int.natCast_pow]
  rfl
def putFixed (n m : Int) : List Int × Bool := if 0 ≤ n ∧ 1 ≤ m ∧ m ≤ 8 ∧ (m < 8 → n.toNat / 256 ^ m.toNat = 0) then (fixedB n.toNat m.toNat, true) else ([], false)
theorem impl_PutFixed_l0 : ∀ (j n : Nat) (tl : List Int), j + tl.length ≤ 8 → Ev (fun k => impl_PutFixed.l0 k (n : Int) (List.replicate j 0 ++ tl) ((j : Int) - 1)) (fixedB n j ++ tl, true) := by
  intro j
  induction j with
  | zero =>
    intro n tl h
    refine Ev_succ ?_
    simp only [impl_PutFixed.l0, if_neg (show ¬ ((0 : Nat) : Int) - 1 ≥ 0 by omega)]
    exact Ev_cast (Ev.now _) (by simp [fixedB])
  | succ j ih =>
    intro n tl h
    refine Ev_succ ?_
    rw [show ((j + 1 : Nat) : Int) - 1 = (j : Int) by omega]
    simp only [impl_PutFixed.l0]
    have hl : (List.replicate (j + 1) (0 : Int) ++ tl).length = j + 1 + tl.length := by simp
    simp only [if_pos (show (j : Int) ≥ 0 by omega), if_pos (show 0 ≤ (j : Int) by omega), if_pos (show (j : Int) < ((List.replicate (j + 1) (0 : Int) ++ tl).length : Int) by omega)]
    rw [w64 (by omega) (by omega)]
    have e : (List.replicate (j + 1) (0 : Int) ++ tl).set ((j : Int)).toNat ((n : Int) % 256) = List.replicate j 0 ++ ((n : Int) % 256 :: tl) := by
      rw [Int.toNat_natCast, List.replicate_succ', List.append_assoc, List.set_append_right _ _ (by simp)]
      simp
    rw [e, show (n : Int) / 256 = ((n / 256 : Nat) : Int) by omega]
    exact Ev_cast (ih (n / 256) ((n : Int) % 256 :: tl) (by simp; omega)) (by simp [fixedB])
theorem impl_PutFixed_ev (n m : Int) (hn : n ≤ 9223372036854775807) : Ev (fun k => impl_PutFixed.f k n m) (putFixed n m) := by
  have bad : Ev (fun k => impl_PutFixed.j0 k n m true) ([], false) := by
    refine Ev_succ ?_
    simp only [impl_PutFixed.j0, if_true]
    exact Ev.now _
  unfold impl_PutFixed.f putFixed
  by_cases h0 : n < 0
  · simp only [if_pos h0]; rw [if_neg (by omega)]; exact bad
  simp only [if_neg h0]
  refine Ev.bind (Ev_some (within_eq _ _ _)) ?_
  by_cases h : 1 ≤ m ∧ m ≤ 8
  · rw [decide_eq_true h]
    simp only [if_true]
    have good : Ev (fun k => impl_PutFixed.j0 k n m false) (fixedB n.toNat m.toNat, true) := by
      refine Ev_succ ?_
      simp only [impl_PutFixed.j0, Bool.false_eq_true, if_false, if_pos (show 0 ≤ m by omega), if_pos (show m.toNat ≤ 281474976710656 by omega)]
      rw [w64 (by omega) (by omega)]
      have := impl_PutFixed_l0 m.toNat n.toNat [] (by simp; omega)
      simp only [List.append_nil] at this
      rwa [show ((n.toNat : Nat) : Int) = n by omega, show ((m.toNat : Nat) : Int) = m by omega] at this
    obtain ⟨N, rfl⟩ := Int.eq_ofNat_of_zero_le (show 0 ≤ n by omega)
    obtain ⟨M, rfl⟩ := Int.eq_ofNat_of_zero_le (show 0 ≤ m by omega)
    simp only [Int.toNat_natCast] at good ⊢
    by_cases h8 : (M : Int) < 8
    · simp only [if_pos h8]
      rw [w64 (n := 8 * (M : Int)) (by omega) (by omega), shr8 N M (by omega)]
      simp only [if_pos (show 0 ≤ 8 * (M : Int) by omega)]
      by_cases hz : N / 256 ^ M = 0
      · rw [if_pos ⟨by omega, h.1, h.2, fun _ => hz⟩, show (((N / 256 ^ M : Nat) : Int) != 0) = false by rw [hz]; rfl]
        exact good
      · rw [if_neg (fun hh => hz (hh.2.2.2 h8)), show (((N / 256 ^ M : Nat) : Int) != 0) = true by simp only [bne_iff_ne]; omega]
        exact bad
    · simp only [if_neg h8]
      rw [if_pos ⟨by omega, h.1, h.2, fun h' => absurd h' h8⟩]
      exact good
  · rw [decide_eq_false h]
    simp only [Bool.false_eq_true, if_false]
    rw [if_neg (by omega)]
    exact bad
/-! ### the cyclic check -/
def crcBit (c : Int) : Int := if Go.bits .and .u32 c 1 = 1 then Go.bits .xor .u32 (c / 2) 2197175160 else c / 2
def crcBits : Nat → Int → Int
  | 0, c => c
  | n + 1, c => crcBits n (crcBit c)
def crcFrom (c : Int) : List Int → Int
  | [] => c
  | b :: t => crcFrom (crcBits 8 (Go.bits .xor .u32 c (b % 4294967296))) t
def crcOf (l : List Int) : Int := Go.bits .xor .u32 4294967295 (crcFrom 4294967295 l)
theorem bits_xor_comm (k : IntKind) (a b : Int) : Go.bits .xor k a b = Go.bits .xor k b a := by
  unfold Go.bits
  show k.wrap (((BitVec.ofInt k.bits a ^^^ BitVec.ofInt k.bits b).toNat : Nat) : Int) = k.wrap (((BitVec.ofInt k.bits b ^^^ BitVec.ofInt k.bits a).toNat : Nat) : Int)
  rw [BitVec.xor_comm]
theorem spec_l1Crc_l1 (l : List Int) (L I : Int) (r : Int) : ∀ (n : Nat) (c : Int), n ≤ 8 → Ev (fun k => spec_l1Crc.l0 k (crcBits n c) l L (wrap64 (I + 1))) r → Ev (fun k => spec_l1Crc.l1 k c (8 - (n : Int)) l L I) r := by
  intro n
  induction n with
  | zero =>
    intro c hn h
    refine Ev_succ ?_
    simp only [spec_l1Crc.l1]
    simp only [if_neg (show ¬ (8 : Int) - (0 : Nat) < 8 by omega)]
    exact h
  | succ n ih =>
    intro c hn h
    refine Ev_succ ?_
    simp only [spec_l1Crc.l1]
    simp only [if_pos (show (8 : Int) - ((n + 1 : Nat) : Int) < 8 by omega)]
    rw [w64 (n := (8 : Int) - ((n + 1 : Nat) : Int) + 1) (by omega) (by omega), show (8 : Int) - ((n + 1 : Nat) : Int) + 1 = 8 - (n : Int) by omega]
    have e : crcBits (n + 1) c = crcBits n (crcBit c) := rfl
    rw [e] at h
    by_cases hb : Go.bits .and .u32 c 1 = 1
    · simp only [if_pos hb]
      exact ih _ (by omega) (by rw [crcBit, if_pos hb] at h; exact h)
    · simp only [if_neg hb]
      exact ih _ (by omega) (by rw [crcBit, if_neg hb] at h; exact h)
theorem spec_l1Crc_l0 (l : List Int) (hl : l.length ≤ 4611686018427387904) : ∀ (d i : Nat) (c : Int), l.length - i = d → i ≤ l.length → Ev (fun k => spec_l1Crc.l0 k c l (l.length : Int) (i : Int)) (Go.bits .xor .u32 (crcFrom c (l.drop i)) 4294967295) := by
  intro d
  induction d with
  | zero =>
    intro i c hd hi
    refine Ev_succ ?_
    simp only [spec_l1Crc.l0]
    simp only [if_neg (show ¬ (i : Int) < (l.length : Int) by omega)]
    rw [List.drop_eq_nil_of_le (by omega)]
    exact Ev.now _
  | succ d ih =>
    intro i c hd hi
    refine Ev_succ ?_
    simp only [spec_l1Crc.l0]
    simp only [if_pos (show (i : Int) < (l.length : Int) by omega), if_pos (show 0 ≤ (i : Int) by omega)]
    have := spec_l1Crc_l1 l (l.length : Int) (i : Int) _ 8 (Go.bits .xor .u32 c (rd l (i : Int) % 4294967296)) (by omega) (by
      rw [w64 (by omega) (by omega)]
      exact ih (i + 1) _ (by omega) (by omega))
    rw [rd_lt (by omega)] at this ⊢
    rw [drop_cons (l := l) (i := i) (by omega)]
    exact this
theorem spec_l1Crc_ev (l : List Int) (hl : l.length ≤ 4611686018427387904) : Ev (fun k => spec_l1Crc.f k l) (crcOf l) := by
  unfold spec_l1Crc.f crcOf
  have := spec_l1Crc_l0 l hl l.length 0 4294967295 (by omega) (by omega)
  rw [bits_xor_comm]
  simpa using this
theorem impl_Crc32c_l1 (l : List Int) (L I : Int) (r : Int) : ∀ (n : Nat) (c : Int), n ≤ 8 → Ev (fun k => impl_Crc32c.l0 k (crcBits n c) l L (wrap64 (I + 1))) r → Ev (fun k => impl_Crc32c.l1 k c l L I (8 - (n : Int))) r := by
  intro n
  induction n with
  | zero =>
    intro c hn h
    refine Ev_succ ?_
    simp only [impl_Crc32c.l1]
    simp only [if_neg (show ¬ (8 : Int) - (0 : Nat) < 8 by omega)]
    exact h
  | succ n ih =>
    intro c hn h
    refine Ev_succ ?_
    simp only [impl_Crc32c.l1]
    simp only [if_pos (show (8 : Int) - ((n + 1 : Nat) : Int) < 8 by omega)]
    rw [w64 (n := (8 : Int) - ((n + 1 : Nat) : Int) + 1) (by omega) (by omega), show (8 : Int) - ((n + 1 : Nat) : Int) + 1 = 8 - (n : Int) by omega]
    have e : crcBits (n + 1) c = crcBits n (crcBit c) := rfl
    rw [e] at h
    by_cases hb : Go.bits .and .u32 c 1 = 1
    · simp only [if_pos hb]
      exact ih _ (by omega) (by rw [crcBit, if_pos hb] at h; exact h)
    · simp only [if_neg hb]
      exact ih _ (by omega) (by rw [crcBit, if_neg hb] at h; exact h)
theorem impl_Crc32c_l0 (l : List Int) (hl : l.length ≤ 4611686018427387904) : ∀ (d i : Nat) (c : Int), l.length - i = d → i ≤ l.length → Ev (fun k => impl_Crc32c.l0 k c l (l.length : Int) (i : Int)) (Go.bits .xor .u32 4294967295 (crcFrom c (l.drop i))) := by
  intro d
  induction d with
  | zero =>
    intro i c hd hi
    refine Ev_succ ?_
    simp only [impl_Crc32c.l0]
    simp only [if_neg (show ¬ (i : Int) < (l.length : Int) by omega)]
    rw [List.drop_eq_nil_of_le (by omega)]
    exact Ev.now _
  | succ d ih =>
    intro i c hd hi
    refine Ev_succ ?_
    simp only [impl_Crc32c.l0]
    simp only [if_pos (show (i : Int) < (l.length : Int) by omega), if_pos (show 0 ≤ (i : Int) by omega)]
    have := impl_Crc32c_l1 l (l.length : Int) (i : Int) _ 8 (Go.bits .xor .u32 c (rd l (i : Int) % 4294967296)) (by omega) (by
      rw [w64 (by omega) (by omega)]
      exact ih (i + 1) _ (by omega) (by omega))
    rw [rd_lt (by omega)] at this ⊢
    rw [drop_cons (l := l) (i := i) (by omega)]
    exact this
theorem impl_Crc32c_ev (l : List Int) (hl : l.length ≤ 4611686018427387904) : Ev (fun k => impl_Crc32c.f k l) (crcOf l) := by
  unfold impl_Crc32c.f crcOf
  have := impl_Crc32c_l0 l hl l.length 0 4294967295 (by omega) (by omega)
  simpa using this
theorem wraps_u64' (n : Int) (h₀ : 0 ≤ n) (h₁ : n < 2 ^ 64) : IntKind.u64.wrap n = n := by rw [wrap_u64]; omega
def beVal (l : List Int) : Nat := l.foldl (fun n x => n * 256 + x.toNat) 0
theorem beVal_snoc (p : List Int) (c : Int) : beVal (p ++ [c]) = beVal p * 256 + c.toNat := by simp [beVal]
theorem beVal_lt : ∀ (p : List Int), Bytes p → beVal p < 256 ^ p.length := by
  intro p
  have key : ∀ (q : List Int) (n m : Nat), Bytes q → n < 256 ^ m → q.foldl (fun n x => n * 256 + x.toNat) n < 256 ^ (m + q.length) := by
    intro q
    induction q with
    | nil => intro n m _ h; simpa using h
    | cons a q ih =>
      intro n m hb h
      have ha := hb a (by simp)
      have := ih (n * 256 + a.toNat) (m + 1) (fun x hx => hb x (by simp [hx])) (by rw [Nat.pow_succ]; omega)
      simp only [List.foldl_cons, List.length_cons]
      rwa [show m + (q.length + 1) = m + 1 + q.length by omega]
  intro hb
  have := key p 0 0 hb (by simp)
  simpa [beVal] using this
theorem pow256_le {i j : Nat} (h : i ≤ j) : (256 : Nat) ^ i ≤ 256 ^ j := Nat.pow_le_pow_right (by decide) h
/-- What ReadFixed tells. -/
def readFixed (l : List Int) (a m : Int) : Int × Bool := if 1 ≤ m ∧ m ≤ 8 ∧ 0 ≤ a ∧ a + m ≤ l.length ∧ beVal ((l.drop a.toNat).take m.toNat) < 9223372036854775808 then ((beVal ((l.drop a.toNat).take m.toNat) : Int), true) else (0, false)
theorem or_i64 (v x : Nat) (hv : v < 72057594037927936) (hx : x < 256) : Go.bits .or .i64 (wrap64 ((v : Int) * 256)) (wrap64 (x : Int)) = wrap64 ((v * 256 + x : Nat) : Int) := by
  have e1 : BitVec.ofInt 64 (wrap64 ((v : Int) * 256)) = BitVec.ofNat 64 (v * 256) := by
    apply BitVec.eq_of_toNat_eq
    rw [BitVec.toNat_ofInt, BitVec.toNat_ofNat]
    unfold wrap64; omega
  have e2 : BitVec.ofInt 64 (wrap64 (x : Int)) = BitVec.ofNat 64 x := by
    apply BitVec.eq_of_toNat_eq
    rw [BitVec.toNat_ofInt, BitVec.toNat_ofNat]
    unfold wrap64; omega
  have e3 : (BitVec.ofNat 64 (v * 256) ||| BitVec.ofNat 64 x).toNat = v * 256 + x := by
    rw [BitVec.toNat_or, BitVec.toNat_ofNat, BitVec.toNat_ofNat, Nat.mod_eq_of_lt (by omega), Nat.mod_eq_of_lt (by omega)]
    have := Nat.two_pow_add_eq_or_of_lt (i := 8) (b := x) (by omega) v
    rw [show v * 256 = 2 ^ 8 * v by omega, ← this]
  unfold Go.bits
  show IntKind.i64.wrap (((BitVec.ofInt 64 (wrap64 ((v : Int) * 256)) ||| BitVec.ofInt 64 (wrap64 (x : Int))).toNat : Nat) : Int) = _
  rw [e1, e2, e3, IntKind.wrap_i64, wrap64]
theorem or_u64 (v x : Nat) (hv : v < 72057594037927936) (hx : x < 256) : Go.bits .or .u64 (IntKind.u64.wrap ((v : Int) * 256)) (IntKind.u64.wrap (x : Int)) = ((v * 256 + x : Nat) : Int) := by
  rw [wraps_u64' _ (by omega) (by omega), wraps_u64' _ (by omega) (by omega)]
  rw [bits_join .u64 64 (by decide) wraps_u64' 8 _ _ (by omega) (by omega) (by omega) (by omega) (by omega) (by omega)]
  omega
theorem spec_l1Number_l0 : ∀ (t p : List Int), Bytes (p ++ t) → (p ++ t).length ≤ 8 → Ev (fun k => spec_l1Number.l0 k (wrap64 (beVal p)) (p ++ t) ((p ++ t).length : Int) (p.length : Int)) (wrap64 (beVal (p ++ t))) := by
  intro t
  induction t with
  | nil =>
    intro p hb hl
    refine Ev_succ ?_
    simp only [spec_l1Number.l0, List.append_nil, Int.lt_irrefl, if_false]
    exact Ev.now _
  | cons c t ih =>
    intro p hb hl
    refine Ev_succ ?_
    have hpb : Bytes p := fun x hx => hb x (List.mem_append_left _ hx)
    have hcb := hb c (by simp)
    have hv := beVal_lt p hpb
    have hl' : p.length ≤ 7 := by simp at hl; omega
    have hv' : beVal p < 256 ^ 7 := Nat.lt_of_lt_of_le hv (pow256_le hl')
    have hll : (p ++ c :: t).length = p.length + t.length + 1 := by simp; omega
    have hrd : rd (p ++ c :: t) (p.length : Int) = c := by
      rw [rd_lt (by omega)]; simp
    simp only [spec_l1Number.l0]
    simp only [if_pos (show (p.length : Int) < ((p ++ c :: t).length : Int) by omega), if_pos (show 0 ≤ (p.length : Int) by omega), hrd]
    rw [w64 (n := (p.length : Int) + 1) (by omega) (by omega), w64 (n := ((beVal p : Nat) : Int)) (by omega) (by omega)]
    obtain ⟨C, rfl⟩ := Int.eq_ofNat_of_zero_le hcb.1
    rw [or_i64 _ _ (by omega) (by omega)]
    have e : p ++ (C : Int) :: t = (p ++ [(C : Int)]) ++ t := by simp
    have e2 : beVal (p ++ [(C : Int)]) = beVal p * 256 + C := by rw [beVal_snoc]; simp
    rw [e, show (p.length : Int) + 1 = ((p ++ [(C : Int)]).length : Int) by simp, ← e2]
    exact ih _ (by rw [← e]; exact hb) (by rw [← e]; exact hl)
theorem spec_l1Number_ev (l : List Int) (hb : Bytes l) (hl : l.length ≤ 8) : Ev (fun k => spec_l1Number.f k l) (wrap64 (beVal l)) := by
  unfold spec_l1Number.f
  have := spec_l1Number_l0 l [] (by simpa using hb) (by simpa using hl)
  simpa [beVal, w64 (n := 0) (by omega) (by omega)] using this
/-! ### pieces of the log -/
theorem bits_u32_range (op : BinOp) (a b : Int) : 0 ≤ Go.bits op .u32 a b ∧ Go.bits op .u32 a b < 4294967296 := by
  unfold Go.bits
  simp only [wrap_u32]
  omega
theorem crcOf_range (l : List Int) : 0 ≤ crcOf l ∧ crcOf l < 4294967296 := bits_u32_range _ _ _
def leftOf (p : Nat) : Nat := 64 - p % 64
theorem left_eq (at_ n : Nat) (h : at_ + n ≤ 4611686018427387904) : wrap64 (64 - Int.tmod (wrap64 ((at_ : Int) + (n : Int))) 64) = (leftOf (at_ + n) : Int) := by
  rw [w64 (n := (at_ : Int) + (n : Int)) (by omega) (by omega), Int.tmod_eq_emod_of_nonneg (by omega)]
  unfold leftOf
  rw [w64 (by omega) (by omega)]
  omega
def checkB (kind : Int) (body : List Int) : List Int := fixedB (crcOf (kind :: body)).toNat 4
def pieceB (kind : Int) (body : List Int) : List Int := checkB kind body ++ ((body.length : Int) :: kind :: body)
theorem checkB_length (kind : Int) (body : List Int) : (checkB kind body).length = 4 := fixedB_length _ _
theorem pieceB_length (kind : Int) (body : List Int) : (pieceB kind body).length = body.length + 6 := by
  unfold pieceB
  rw [List.length_append, checkB_length]
  simp; omega
def kindOf (first last : Bool) : Int := if first = true then (if last = true then 1 else 2) else (if last = true then 4 else 3)
theorem take_len (rest : List Int) (n : Nat) (h : n ≤ rest.length) : (rest.take n).length = n := by rw [List.length_take]; omega
/-! ### what stands ahead of a piece -/
theorem padding_eq (at_ n : Nat) (h : at_ + n ≤ 4611686018427387904) : impl_padding.f (wrap64 ((at_ : Int) + (n : Int))) = some ((if leftOf (at_ + n) < 6 then leftOf (at_ + n) else 0 : Nat) : Int) := by
  unfold impl_padding.f
  rw [left_eq at_ n h]
  by_cases h6 : leftOf (at_ + n) < 6
  · rw [if_pos (by omega), if_pos h6]
  · rw [if_neg (by omega), if_neg h6]; rfl
theorem impl_check_ev (kind : Int) (body : List Int) (hl : body.length ≤ 1000000000) : Ev (fun k => impl_check.f k kind body) (checkB kind body) := by
  unfold impl_check.f checkB
  simp only [Option.bind_some, if_pos (show ([kind] : List Int).length + body.length < 140737488355328 by simp; omega)]
  refine Ev.bind (impl_Crc32c_ev ([kind] ++ body) (by simp; omega)) ?_
  have hc := crcOf_range ([kind] ++ body)
  rw [w64 (by omega) (by omega)]
  refine Ev.bind (impl_PutFixed_ev _ 4 (by omega)) ?_
  unfold putFixed
  rw [if_pos ⟨by omega, by omega, by omega, fun _ => by
    rw [show (4 : Int).toNat = 4 by rfl, Nat.div_eq_of_lt]
    have : (crcOf ([kind] ++ body)).toNat < 4294967296 := by omega
    simpa using this⟩]
  exact Ev.now _
/-! ### a log read from the front -/
theorem fixedB_beVal : ∀ (m : Nat) (p : List Int), p.length = m → Bytes p → fixedB (beVal p) m = p := by
  intro m
  induction m with
  | zero => intro p hp _; rw [List.length_eq_zero_iff.1 hp]; rfl
  | succ m ih =>
    intro p hp hb
    have hne : p ≠ [] := fun h => by rw [h] at hp; cases hp
    have e : p = p.dropLast ++ [p.getLast hne] := (List.dropLast_concat_getLast hne).symm
    have hx := hb _ (List.getLast_mem hne)
    rw [e, beVal_snoc]
    have h1 : (beVal p.dropLast * 256 + (p.getLast hne).toNat) / 256 = beVal p.dropLast := by omega
    have h2 : (beVal p.dropLast * 256 + (p.getLast hne).toNat) % 256 = (p.getLast hne).toNat := by omega
    simp only [fixedB, h1, h2]
    rw [ih p.dropLast (by rw [List.length_dropLast]; omega) (hb.sub fun x hx => List.dropLast_subset p hx)]
    congr 2
    omega
theorem beVal_fixedB : ∀ (m n : Nat), n < 256 ^ m → beVal (fixedB n m) = n := by
  intro m
  induction m with
  | zero => intro n h; simp at h; subst h; rfl
  | succ m ih =>
    intro n h
    simp only [fixedB]
    rw [beVal_snoc, ih (n / 256) (by rw [Nat.pow_succ] at h; omega)]
    omega
/-- the piece at a place -/
def pieceM (b : List Int) (p : Nat) : Option (Int × List Int) :=
  if p + 6 ≤ b.length then
    if ¬ 6 + (b.getD (p + 4) 0).toNat > leftOf p ∧ ¬ p + 6 + (b.getD (p + 4) 0).toNat > b.length ∧ 1 ≤ b.getD (p + 5) 0 ∧ b.getD (p + 5) 0 ≤ 4 ∧ checkB (b.getD (p + 5) 0) ((b.take (p + 6 + (b.getD (p + 4) 0).toNat)).drop (p + 6)) = (b.take (p + 4)).drop p then some (b.getD (p + 5) 0, (b.take (p + 6 + (b.getD (p + 4) 0).toNat)).drop (p + 6)) else none
  else none
theorem rd_getD (b : List Int) (i : Nat) : rd b (i : Int) = b.getD i 0 := by simp [rd]
theorem left0 (p : Nat) (h : p ≤ 1000000) : wrap64 (64 - Int.tmod (p : Int) 64) = (leftOf p : Int) := by
  have e : Int.tmod (p : Int) 64 = ((p % 64 : Nat) : Int) := by rw [Int.tmod_eq_emod_of_nonneg (by omega)]; omega
  rw [e, w64 (by omega) (by omega)]; unfold leftOf; omega
theorem check_eq (kd : Int) (d b4 : List Int) (hb : Bytes b4) (hl : b4.length = 4) : (wrap64 (crcOf (kd :: d)) = wrap64 (beVal b4 : Int)) ↔ checkB kd d = b4 := by
  have hr := crcOf_range (kd :: d)
  have hv := beVal_lt b4 hb
  rw [hl] at hv
  have h256 : (256 : Nat) ^ 4 = 4294967296 := by decide
  rw [h256] at hv
  rw [w64 (by omega) (by omega), w64 (by omega) (by omega)]
  unfold checkB
  constructor
  · intro h
    rw [h, Int.toNat_natCast]
    exact fixedB_beVal 4 b4 hl hb
  · intro h
    have := beVal_fixedB 4 (crcOf (kd :: d)).toNat (by rw [h256]; omega)
    rw [h] at this
    rw [this]; omega
/-- the answer of the spec for a piece -/
def specAns (p : Nat) : Option (Int × List Int) → Int × List Int × Int
  | none => (0, [], 0)
  | some q => (q.1, q.2, ((p + 6 + q.2.length : Nat) : Int))
theorem spec_piece_ev (b : List Int) (hb : Bytes b) (hl : b.length ≤ 20000) (p : Nat) (hp : p ≤ 20000) : Ev (fun k => spec_l3Piece.f k b (p : Int)) (specAns p (pieceM b p)) := by
  have bad : ∀ q : Bool, q = true → ∀ x : Int, Ev (fun k => spec_l3Piece.j0 k b (p : Int) x q) (0, [], 0) := by
    intro q hq x
    refine Ev_succ ?_
    simp only [spec_l3Piece.j0, if_pos hq]
    exact Ev.now _
  unfold spec_l3Piece.f pieceM
  rw [w64 (n := (p : Int) + 6) (by omega) (by omega), w64 (n := (p : Int) + 4) (by omega) (by omega)]
  by_cases h1 : p + 6 ≤ b.length
  · simp only [if_neg (show ¬ (p : Int) + 6 > (b.length : Int) by omega), if_pos (show 0 ≤ (p : Int) + 4 by omega), if_pos (show (p : Int) + 4 < (b.length : Int) by omega), if_pos h1]
    have hz := hb.rd ((p + 4 : Nat) : Int)
    have hk := hb.rd ((p + 5 : Nat) : Int)
    rw [show (p : Int) + 4 = ((p + 4 : Nat) : Int) by omega]
    rw [rd_getD] at hz hk ⊢
    generalize hs : b.getD (p + 4) 0 = s at hz ⊢
    generalize hkd : b.getD (p + 5) 0 = kd at hk ⊢
    obtain ⟨z, rfl⟩ := Int.eq_ofNat_of_zero_le hz.1
    rw [w64 (n := (z : Int)) (by omega) (by omega), w64 (n := 6 + (z : Int)) (by omega) (by omega), w64 (n := (p : Int) + 6 + (z : Int)) (by omega) (by omega), left0 p (by omega)]
    simp only [Int.toNat_natCast]
    by_cases h2 : 6 + z > leftOf p
    · simp only [if_pos (show 6 + (z : Int) > (leftOf p : Int) by omega)]
      rw [if_neg (fun h => h.1 h2)]
      exact bad true rfl _
    · simp only [if_neg (show ¬ 6 + (z : Int) > (leftOf p : Int) by omega)]
      by_cases h3 : p + 6 + z > b.length
      · rw [if_neg (fun h => h.2.1 h3)]
        exact bad _ (decide_eq_true (by omega)) _
      · rw [decide_eq_false (show ¬ (p : Int) + 6 + (z : Int) > (b.length : Int) by omega)]
        refine Ev_succ ?_
        simp only [spec_l3Piece.j0, Bool.false_eq_true, if_false]
        rw [w64 (n := (p : Int) + 5) (by omega) (by omega), w64 (n := (p : Int) + 6) (by omega) (by omega), w64 (n := (p : Int) + 6 + (z : Int)) (by omega) (by omega), w64 (n := (p : Int) + 4) (by omega) (by omega)]
        simp only [if_pos (show 0 ≤ (p : Int) + 5 by omega), if_pos (show (p : Int) + 5 ≤ (p : Int) + 6 + (z : Int) by omega), if_pos (show (p : Int) + 6 + (z : Int) ≤ (b.length : Int) by omega), Option.bind_some]
        rw [show ((p : Int) + 6 + (z : Int)).toNat = p + 6 + z by omega, show ((p : Int) + 5).toNat = p + 5 by omega, show ((p : Int) + 4).toNat = p + 4 by omega, show ((p : Int)).toNat = p by omega]
        have hbody : (b.take (p + 6 + z)).drop (p + 5) = kd :: (b.take (p + 6 + z)).drop (p + 6) := by
          rw [List.drop_eq_getElem_cons (show p + 5 < (b.take (p + 6 + z)).length by rw [List.length_take]; omega)]
          congr 1
          rw [List.getElem_take, ← hkd]
          simp [show p + 5 < b.length by omega]
        generalize hd : (b.take (p + 6 + z)).drop (p + 6) = d at hbody ⊢
        have hdl : d.length = z := by rw [← hd, List.length_drop, List.length_take]; omega
        rw [hbody]
        refine Ev.bind (spec_l1Crc_ev _ (by rw [List.length_cons]; omega)) ?_
        simp only [if_pos (show 0 ≤ (p : Int) by omega), if_pos (show (p : Int) ≤ (p : Int) + 4 by omega), if_pos (show (p : Int) + 4 ≤ (b.length : Int) by omega)]
        have h4l : ((b.take (p + 4)).drop p).length = 4 := by rw [List.length_drop, List.length_take]; omega
        have h4b : Bytes ((b.take (p + 4)).drop p) := (hb.take _).drop _
        generalize hb4 : (b.take (p + 4)).drop p = b4 at h4l h4b ⊢
        refine Ev.bind (spec_l1Number_ev b4 h4b (by omega)) ?_
        have hce := check_eq kd d b4 h4b h4l
        by_cases h5 : checkB kd d = b4
        · simp only [if_pos (hce.2 h5), if_pos (show 0 < (((kd :: d).length : Nat) : Int) by rw [List.length_cons]; omega)]
          have hrd : rd (kd :: d) 0 = kd := by simp [rd]
          rw [hrd, w64 (n := kd) (by omega) (by omega), l1In_eq]
          simp only [Option.bind_some]
          by_cases h6 : 1 ≤ kd ∧ kd ≤ 4
          · simp only [decide_eq_true h6, if_true, if_pos (show 1 ≤ (((kd :: d).length : Nat) : Int) by rw [List.length_cons]; omega)]
            refine Ev_cast (Ev.now _) ?_
            rw [if_pos ⟨h2, h3, h6.1, h6.2, h5⟩]
            simp only [specAns, List.drop_succ_cons, List.drop_zero, hdl]
            congr 2
          · simp only [decide_eq_false h6, Bool.false_eq_true, if_false]
            exact Ev_cast (Ev.now _) (by rw [if_neg (fun h => h6 ⟨h.2.2.1, h.2.2.2.1⟩)]; rfl)
        · simp only [if_neg (show ¬ wrap64 (crcOf (kd :: d)) = wrap64 (beVal b4 : Int) from fun h => h5 (hce.1 h))]
          exact Ev_cast (Ev.now _) (by rw [if_neg (fun h => h5 h.2.2.2.2)]; rfl)
  · simp only [if_pos (show (p : Int) + 6 > (b.length : Int) by omega), if_neg h1]
    exact Ev.now _
/-- the answer of the program for a piece: its two first parts say nothing where there is none -/
def implAns (q : Int × List Int) : Option (Int × List Int) → Int × List Int × Bool
  | none => (q.1, q.2, false)
  | some s => (s.1, s.2, true)
theorem equal_ev (a c : List Int) (ha : a.length ≤ 1000000) : Ev (fun k => slices_Equal_byte_byte.f k a c) (decide (a = c)) := by
  unfold slices_Equal_byte_byte.f
  by_cases hl : a.length = c.length
  · simp only [if_pos (show (a.length : Int) = (c.length : Int) by omega)]
    have loop : ∀ (d i : Nat), a.length - i = d → i ≤ a.length → Ev (fun k => slices_Equal_byte_byte.l0 k a c (a.length : Int) (i : Int)) (decide (a.drop i = c.drop i)) := by
      intro d
      induction d with
      | zero =>
        intro i hd hi
        refine Ev_succ ?_
        simp only [slices_Equal_byte_byte.l0]
        simp only [if_neg (show ¬ (i : Int) < (a.length : Int) by omega)]
        exact Ev_cast (Ev.now _) (by rw [List.drop_eq_nil_of_le (by omega), List.drop_eq_nil_of_le (by omega)]; simp)
      | succ d ih =>
        intro i hd hi
        refine Ev_succ ?_
        simp only [slices_Equal_byte_byte.l0]
        simp only [if_pos (show (i : Int) < (a.length : Int) by omega), if_pos (show 0 ≤ (i : Int) by omega), if_pos (show (i : Int) < (c.length : Int) by omega)]
        rw [rd_lt (show i < a.length by omega), rd_lt (show i < c.length by omega), w64 (by omega) (by omega)]
        have e1 := List.drop_eq_getElem_cons (show i < a.length by omega)
        have e2 := List.drop_eq_getElem_cons (show i < c.length by omega)
        by_cases he : a[i]'(by omega) = c[i]'(by omega)
        · simp only [if_pos he]
          exact Ev_cast (ih (i + 1) (by omega) (by omega)) (by rw [e1, e2, he]; exact decide_eq_decide.2 ⟨fun h => by rw [h], fun h => (List.cons.inj h).2⟩)
        · simp only [if_neg he]
          exact Ev_cast (Ev.now _) (by rw [e1, e2]; symm; exact decide_eq_false (fun h => he (List.cons.inj h).1))
    exact Ev_cast (loop a.length 0 (by omega) (by omega)) (by simp)
  · simp only [if_neg (show ¬ (a.length : Int) = (c.length : Int) by omega)]
    exact Ev_cast (Ev.now _) (by symm; exact decide_eq_false (fun h => hl (by rw [h])))
theorem impl_piece_ev (b : List Int) (hb : Bytes b) (hl : b.length ≤ 20000) (p : Nat) (hp : p ≤ 20000) : ∃ q, Ev (fun k => impl_piece.f k b (p : Int)) (implAns q (pieceM b p)) := by
  have bad : ∀ q : Bool, q = true → ∀ x y : Int, Ev (fun k => impl_piece.j0 k b (p : Int) x y q) (0, [], false) := by
    intro q hq x y
    refine Ev_succ ?_
    simp only [impl_piece.j0, if_pos hq]
    exact Ev.now _
  unfold impl_piece.f pieceM
  rw [w64 (n := (b.length : Int) - (p : Int)) (by omega) (by omega), w64 (n := (p : Int) + 6) (by omega) (by omega), w64 (n := (p : Int) + 4) (by omega) (by omega), w64 (n := (p : Int) + 5) (by omega) (by omega)]
  by_cases h1 : p + 6 ≤ b.length
  · simp only [if_neg (show ¬ (b.length : Int) - (p : Int) < 6 by omega), if_pos (show 0 ≤ (p : Int) + 4 by omega), if_pos (show (p : Int) + 4 < (b.length : Int) by omega), if_pos (show 0 ≤ (p : Int) + 5 by omega), if_pos (show (p : Int) + 5 < (b.length : Int) by omega), if_pos h1]
    have hz := hb.rd ((p + 4 : Nat) : Int)
    have hk := hb.rd ((p + 5 : Nat) : Int)
    rw [show (p : Int) + 4 = ((p + 4 : Nat) : Int) by omega, show (p : Int) + 5 = ((p + 5 : Nat) : Int) by omega]
    rw [rd_getD] at hz hk
    rw [rd_getD, rd_getD]
    generalize hs : b.getD (p + 4) 0 = s at hz ⊢
    generalize hkd : b.getD (p + 5) 0 = kd at hk ⊢
    obtain ⟨z, rfl⟩ := Int.eq_ofNat_of_zero_le hz.1
    have e : Int.tmod (p : Int) 64 = ((p % 64 : Nat) : Int) := by rw [Int.tmod_eq_emod_of_nonneg (by omega)]; omega
    have hleft : leftOf p = 64 - p % 64 := rfl
    rw [e, w64 (n := (z : Int)) (by omega) (by omega), w64 (n := ((p % 64 : Nat) : Int) + 6) (by omega) (by omega), w64 (n := ((p % 64 : Nat) : Int) + 6 + (z : Int)) (by omega) (by omega), w64 (n := (p : Int) + 6 + (z : Int)) (by omega) (by omega)]
    simp only [Int.toNat_natCast]
    by_cases h2 : 6 + z > leftOf p
    · simp only [if_pos (show ((p % 64 : Nat) : Int) + 6 + (z : Int) > 64 by omega)]
      refine ⟨(0, []), ?_⟩
      rw [if_neg (fun h => h.1 h2)]
      exact bad true rfl _ _
    · simp only [if_neg (show ¬ ((p % 64 : Nat) : Int) + 6 + (z : Int) > 64 by omega)]
      by_cases h3 : p + 6 + z > b.length
      · simp only [if_pos (show (p : Int) + 6 + (z : Int) > (b.length : Int) by omega)]
        refine ⟨(0, []), ?_⟩
        rw [if_neg (fun h => h.2.1 h3)]
        exact bad true rfl _ _
      · simp only [if_neg (show ¬ (p : Int) + 6 + (z : Int) > (b.length : Int) by omega)]
        by_cases h6 : 1 ≤ kd ∧ kd ≤ 4
        · simp only [if_neg (show ¬ kd < 1 by omega)]
          rw [decide_eq_false (show ¬ kd > 4 by omega)]
          generalize hd : (b.take (p + 6 + z)).drop (p + 6) = d
          have hdl : d.length = z := by rw [← hd, List.length_drop, List.length_take]; omega
          have h4l : ((b.take (p + 4)).drop p).length = 4 := by rw [List.length_drop, List.length_take]; omega
          generalize hb4 : (b.take (p + 4)).drop p = b4 at h4l
          refine ⟨(kd, d), Ev_succ ?_⟩
          simp only [impl_piece.j0, Bool.false_eq_true, if_false]
          rw [w64 (n := (p : Int) + 6) (by omega) (by omega), w64 (n := (p : Int) + 4) (by omega) (by omega)]
          simp only [if_pos (show 0 ≤ (p : Int) + 6 by omega), if_pos (show (p : Int) + 6 ≤ (p : Int) + 6 + (z : Int) by omega), if_pos (show (p : Int) + 6 + (z : Int) ≤ (b.length : Int) by omega), Option.bind_some]
          rw [show ((p : Int) + 6 + (z : Int)).toNat = p + 6 + z by omega, show ((p : Int) + 6).toNat = p + 6 by omega, show ((p : Int) + 4).toNat = p + 4 by omega, show ((p : Int)).toNat = p by omega, hd, hb4]
          refine Ev.bind (impl_check_ev kd d (by omega)) ?_
          simp only [if_pos (show 0 ≤ (p : Int) by omega), if_pos (show (p : Int) ≤ (p : Int) + 4 by omega), if_pos (show (p : Int) + 4 ≤ (b.length : Int) by omega)]
          refine Ev.bind (equal_ev _ b4 (by rw [checkB_length]; omega)) ?_
          by_cases h5 : checkB kd d = b4
          · rw [if_pos ⟨h2, h3, h6.1, h6.2, h5⟩]
            exact Ev_cast (Ev.now _) (by simp [implAns, h5])
          · rw [if_neg (fun h => h5 h.2.2.2.2)]
            exact Ev_cast (Ev.now _) (by simp [implAns, h5])
        · refine ⟨(0, []), ?_⟩
          rw [if_neg (fun h => h6 ⟨h.2.2.1, h.2.2.2.1⟩)]
          by_cases h7 : kd < 1
          · simp only [if_pos h7]
            exact bad true rfl _ _
          · simp only [if_neg h7]
            exact bad _ (decide_eq_true (by omega)) _ _
  · refine ⟨(0, []), ?_⟩
    simp only [if_pos (show (b.length : Int) - (p : Int) < 6 by omega), if_neg h1]
    exact Ev.now _
/-! ### both readers -/
def padN (p : Nat) : Nat := if leftOf p < 6 then leftOf p else 0
theorem padding0 (p : Nat) (h : p ≤ 1000000) : impl_padding.f (p : Int) = some ((padN p : Nat) : Int) := by
  unfold impl_padding.f padN
  rw [left0 p h]
  by_cases h6 : leftOf p < 6
  · rw [if_pos (by omega), if_pos h6]
  · rw [if_neg (by omega), if_neg h6]; rfl
theorem contains_ev (l : List Int) (hl : l.length ≤ 1000000) : Ev (fun k => slices_ContainsFunc_byte_byte.f k l ()) (l.any (fun x => x != 0)) := by
  have loop : ∀ (d i : Nat), l.length - i = d → i ≤ l.length → ∃ r, Ev (fun k => slices_IndexFunc_byte_byte.l0 k l (l.length : Int) (i : Int)) r ∧ decide (r ≥ 0) = (l.drop i).any (fun x => x != 0) := by
    intro d
    induction d with
    | zero =>
      intro i hd hi
      refine ⟨-1, Ev_succ ?_, by rw [List.drop_eq_nil_of_le (by omega)]; rfl⟩
      simp only [slices_IndexFunc_byte_byte.l0]
      simp only [if_neg (show ¬ (i : Int) < (l.length : Int) by omega)]
      exact Ev.now _
    | succ d ih =>
      intro i hd hi
      have e := List.drop_eq_getElem_cons (show i < l.length by omega)
      by_cases he : l[i]'(by omega) = 0
      · obtain ⟨r, hr, hr2⟩ := ih (i + 1) (by omega) (by omega)
        refine ⟨r, Ev_succ ?_, by rw [hr2, e, List.any_cons, he]; rfl⟩
        simp only [slices_IndexFunc_byte_byte.l0]
        simp only [if_pos (show (i : Int) < (l.length : Int) by omega), if_pos (show 0 ≤ (i : Int) by omega)]
        rw [rd_lt (show i < l.length by omega), w64 (by omega) (by omega), he]
        refine Ev.bind (a := false) (Ev_some rfl) ?_
        simp only [Bool.false_eq_true, if_false]
        exact hr
      · refine ⟨(i : Int), Ev_succ ?_, ?_⟩
        · simp only [slices_IndexFunc_byte_byte.l0]
          simp only [if_pos (show (i : Int) < (l.length : Int) by omega), if_pos (show 0 ≤ (i : Int) by omega)]
          rw [rd_lt (show i < l.length by omega)]
          refine Ev.bind (a := true) (Ev_some (by unfold impl_readLog_1.f; rw [show (l[i]'(by omega) != 0) = true from by simpa using he])) ?_
          simp only [if_true]
          exact Ev.now _
        · rw [e, List.any_cons, show (l[i]'(by omega) != 0) = true from by simpa using he]
          simp
  obtain ⟨r, hr, hr2⟩ := loop l.length 0 (by omega) (by omega)
  unfold slices_ContainsFunc_byte_byte.f slices_IndexFunc_byte_byte.f
  exact Ev.bind hr (Ev_cast (Ev.now _) (by rw [hr2, List.drop_zero]))
theorem zeros_iff (s : List Int) (hs : Bytes s) (n : Nat) (hn : s.length = n) : (strOfNums s).toList = (strOfNums (List.replicate n 0)).toList ↔ s.any (fun x => x != 0) = false := by
  have h := strOfNums_eq s (List.replicate n 0) hs (fun x hx => by rw [List.eq_of_mem_replicate hx]; omega)
  have h2 : (strOfNums s).toList = (strOfNums (List.replicate n 0)).toList ↔ s = List.replicate n 0 := by
    constructor
    · intro e; rw [beq_iff_eq.2 e] at h; exact of_decide_eq_true h.symm
    · intro e; rw [e]
  rw [h2, List.eq_replicate_iff]
  simp only [List.any_eq_false, bne_iff_ne, ne_eq, Decidable.not_not]
  exact ⟨fun h x hx => h.2 x hx, fun h => ⟨hn, h⟩⟩
theorem pieceM_some {b : List Int} {p : Nat} {kd : Int} {d : List Int} (h : pieceM b p = some (kd, d)) : 1 ≤ kd ∧ kd ≤ 4 ∧ p + 6 + d.length ≤ b.length := by
  unfold pieceM at h
  split at h
  · split at h
    · rename_i h1 h2
      simp only [Option.some.injEq, Prod.mk.injEq] at h
      obtain ⟨rfl, rfl⟩ := h
      refine ⟨h2.2.2.1, h2.2.2.2.1, ?_⟩
      rw [List.length_drop, List.length_take]
      omega
    · cases h
  · cases h
theorem next_place (p pad n : Nat) (h : p + pad + 6 + n ≤ 20000) : wrap64 ((p : Int) + wrap64 (wrap64 ((pad : Int) + 6) + (n : Int))) = ((p + pad + 6 + n : Nat) : Int) := by
  have a1 : wrap64 ((pad : Int) + 6) = (pad : Int) + 6 := w64 (by omega) (by omega)
  have a2 : wrap64 ((pad : Int) + 6 + (n : Int)) = (pad : Int) + 6 + (n : Int) := w64 (by omega) (by omega)
  have a3 : wrap64 ((p : Int) + ((pad : Int) + 6 + (n : Int))) = (p : Int) + ((pad : Int) + 6 + (n : Int)) := w64 (by omega) (by omega)
  rw [a1, a2, a3]
  omega
theorem read_both (b : List Int) (hb : Bytes b) (hl : b.length ≤ 20000) : ∀ (M p : Nat) (out : List (List Int)) (good : Int) (now : List Int) (op : Bool), b.length - p ≤ M → p ≤ b.length → out.length ≤ p → now.length ≤ p → (∀ x ∈ out, x.length ≤ 20000) →
    ∃ r : List (List Int) × Int, Ev (fun k => spec_l3Read.l0 k b out good (p : Int) now op) r ∧ Ev (fun k => impl_readLog.l0 k b out good op now (p : Int)) r ∧ r.1.length ≤ 20000 ∧ ∀ x ∈ r.1, x.length ≤ 20000 := by
  intro M
  induction M using Nat.strongRecOn with
  | ind M ih =>
    intro p out good now op hM hp ho hn hx
    have stopS : ∀ (q : Bool) (kd : Int) (d : List Int) (nx : Int), q = true → Ev (fun k => spec_l3Read.j1 k b out good now kd d nx q) (out, good) := by
      intro q kd d nx hq
      refine Ev_succ ?_
      simp only [spec_l3Read.j1, if_pos hq]
      exact Ev.now _
    have stopI : ∀ (q : Bool) (pd kd : Int) (d : List Int), q = true → Ev (fun k => impl_readLog.j2 k b out good now (p : Int) pd kd d q) (out, good) := by
      intro q pd kd d hq
      refine Ev_succ ?_
      simp only [impl_readLog.j2, if_pos hq]
      exact Ev.now _
    have stopJ : ∀ (q : Bool) (pd : Int), q = true → Ev (fun k => impl_readLog.j1 k b out good op now (p : Int) pd q) (out, good) := by
      intro q pd hq
      refine Ev_succ ?_
      simp only [impl_readLog.j1, if_pos hq]
      exact Ev.now _
    have fin : (out, good).1.length ≤ 20000 ∧ ∀ x ∈ (out, good).1, x.length ≤ 20000 := ⟨by show out.length ≤ 20000; omega, hx⟩
    have tail : ∀ pad : Nat, p + pad ≤ b.length → (p + pad < b.length → 6 ≤ leftOf (p + pad)) → ∃ r : List (List Int) × Int, Ev (fun k => spec_l3Read.l0 k b out good ((p + pad : Nat) : Int) now op) r ∧ Ev (fun k => impl_readLog.j1 k b out good op now (p : Int) (pad : Int) false) r ∧ r.1.length ≤ 20000 ∧ ∀ x ∈ r.1, x.length ≤ 20000 := by
      intro pad hpp hleft
      have e1 : wrap64 ((p : Int) + (pad : Int)) = ((p + pad : Nat) : Int) := by rw [w64 (by omega) (by omega)]; omega
      obtain ⟨q, hq⟩ := impl_piece_ev b hb hl (p + pad) (by omega)
      have hsp := spec_piece_ev b hb hl (p + pad) (by omega)
      cases hpm : pieceM b (p + pad) with
      | none =>
        rw [hpm] at hq hsp
        refine ⟨(out, good), ?_, Ev_succ ?_, fin⟩
        · refine Ev_succ ?_
          simp only [spec_l3Read.l0]
          by_cases hlt : p + pad < b.length
          · simp only [if_pos (show ((p + pad : Nat) : Int) < (b.length : Int) by omega)]
            rw [left0 (p + pad) (by omega)]
            simp only [if_neg (show ¬ (leftOf (p + pad) : Int) < 6 by have := hleft hlt; omega)]
            refine Ev.bind hsp ?_
            simp only [specAns, if_true]
            exact stopS true _ _ _ rfl
          · simp only [if_neg (show ¬ ((p + pad : Nat) : Int) < (b.length : Int) by omega)]
            exact Ev.now _
        · simp only [impl_readLog.j1, Bool.false_eq_true, if_false, e1]
          refine Ev.bind hq ?_
          simp only [implAns, Bool.false_eq_true, if_false]
          exact stopI true _ _ _ rfl
      | some s =>
        obtain ⟨kd, d⟩ := s
        rw [hpm] at hq hsp
        obtain ⟨hk1, hk4, hpl⟩ := pieceM_some hpm
        have hlt : p + pad < b.length := by omega
        have e2 := Aside0.mk (next_place p pad d.length (Nat.le_trans hpl hl))
        have hn1 : now.length ≤ 20000 := by omega
        have hd1 : d.length ≤ 20000 := by omega
        have ho1 : out.length ≤ 20000 := by omega
        have hnd : now.length + d.length < 140737488355328 := Nat.lt_of_le_of_lt (Nat.add_le_add hn1 hd1) (by decide)
        have hnd2 : ([] : List Int).length + (now ++ d).length < 140737488355328 := by rw [List.length_nil, Nat.zero_add, List.length_append]; exact hnd
        have hod : out.length < 5864062014805 := Nat.lt_of_le_of_lt ho1 (by decide)
        -- what follows
        have cont : ∃ r : List (List Int) × Int, Ev (fun k => spec_l3Read.j1 k b out good now kd d ((p + pad + 6 + d.length : Nat) : Int) false) r ∧ Ev (fun k => impl_readLog.j2 k b out good now (p : Int) (pad : Int) kd d false) r ∧ r.1.length ≤ 20000 ∧ ∀ x ∈ r.1, x.length ≤ 20000 := by
          by_cases h2 : kd = 2
          · obtain ⟨r, h3, h4, h5⟩ := ih (b.length - (p + pad + 6 + d.length)) (by omega) (p + pad + 6 + d.length) out good (now ++ d) true (Nat.le_refl _) hpl (by omega) (by rw [List.length_append]; omega) hx
            refine ⟨r, Ev_succ ?_, Ev_succ ?_, h5⟩
            · simp only [spec_l3Read.j1, Bool.false_eq_true, if_false, if_pos hnd, Option.bind_some, if_pos h2]
              exact h3
            · simp only [impl_readLog.j2, Bool.false_eq_true, if_false, if_pos hnd, Option.bind_some, if_pos h2, e2.out]
              exact h4
          · by_cases h3k : kd = 3
            · obtain ⟨r, h3, h4, h5⟩ := ih (b.length - (p + pad + 6 + d.length)) (by omega) (p + pad + 6 + d.length) out good (now ++ d) (kd == 3) (Nat.le_refl _) hpl (by omega) (by rw [List.length_append]; omega) hx
              refine ⟨r, Ev_succ ?_, Ev_succ ?_, h5⟩
              · simp only [spec_l3Read.j1, Bool.false_eq_true, if_false, if_pos hnd, Option.bind_some, if_neg h2, if_pos h3k]
                exact h3
              · simp only [impl_readLog.j2, Bool.false_eq_true, if_false, if_pos hnd, Option.bind_some, if_neg h2, if_pos h3k, e2.out]
                exact h4
            · obtain ⟨r, h3, h4, h5⟩ := ih (b.length - (p + pad + 6 + d.length)) (by omega) (p + pad + 6 + d.length) (out ++ [now ++ d]) ((p + pad + 6 + d.length : Nat) : Int) [] (kd == 3) (Nat.le_refl _) hpl (by rw [List.length_append, List.length_singleton]; omega) (by simp) (fun x hx2 => by
                rcases List.mem_append.1 hx2 with h | h
                · exact hx x h
                · rw [List.mem_singleton.1 h, List.length_append]; omega)
              refine ⟨r, Ev_succ ?_, Ev_succ ?_, h5⟩
              · simp only [spec_l3Read.j1, Bool.false_eq_true, if_false, if_pos hnd, Option.bind_some, if_neg h2, if_neg h3k, List.nil_append, if_pos hnd2, if_pos hod]
                exact h3
              · simp only [impl_readLog.j2, Bool.false_eq_true, if_false, if_pos hnd, Option.bind_some, if_neg h2, if_neg h3k, if_pos hod, e2.out]
                exact h4
        have go : ∀ qb : Bool, (qb = if kd = 3 then (op != true) else (op != (kd == 4))) → ∃ r : List (List Int) × Int, Ev (fun k => spec_l3Read.j1 k b out good now kd d ((p + pad + 6 + d.length : Nat) : Int) qb) r ∧ Ev (fun k => impl_readLog.j2 k b out good now (p : Int) (pad : Int) kd d qb) r ∧ r.1.length ≤ 20000 ∧ ∀ x ∈ r.1, x.length ≤ 20000 := by
          intro qb _
          cases qb with
          | true => exact ⟨(out, good), stopS true _ _ _ rfl, stopI true _ _ _ rfl, fin⟩
          | false => exact cont
        have hS : ∀ (r : List (List Int) × Int) (qb : Bool), (qb = if kd = 3 then (op != true) else (op != (kd == 4))) → Ev (fun k => spec_l3Read.j1 k b out good now kd d ((p + pad + 6 + d.length : Nat) : Int) qb) r → Ev (fun k => spec_l3Read.l0 k b out good ((p + pad : Nat) : Int) now op) r := by
          intro r qb hqb h
          refine Ev_succ ?_
          simp only [spec_l3Read.l0]
          simp only [if_pos (show ((p + pad : Nat) : Int) < (b.length : Int) by omega)]
          rw [left0 (p + pad) (by omega)]
          simp only [if_neg (show ¬ (leftOf (p + pad) : Int) < 6 by have := hleft hlt; omega)]
          refine Ev.bind (a := (kd, d, ((p + pad + 6 + d.length : Nat) : Int))) hsp ?_
          simp only [if_neg (show ¬ kd = 0 by omega)]
          subst hqb
          by_cases h3k : kd = 3
          · simp only [if_pos h3k] at h ⊢
            exact h
          · simp only [if_neg h3k] at h ⊢
            exact h
        have hI : ∀ (r : List (List Int) × Int) (qb : Bool), (qb = if kd = 3 then (op != true) else (op != (kd == 4))) → Ev (fun k => impl_readLog.j2 k b out good now (p : Int) (pad : Int) kd d qb) r → Ev (fun k => impl_readLog.j1 k b out good op now (p : Int) (pad : Int) false) r := by
          intro r qb hqb h
          refine Ev_succ ?_
          simp only [impl_readLog.j1, Bool.false_eq_true, if_false, e1]
          refine Ev.bind (a := (kd, d, true)) hq ?_
          simp only [if_true]
          subst hqb
          by_cases h3k : kd = 3
          · simp only [if_pos h3k] at h ⊢
            exact h
          · simp only [if_neg h3k] at h ⊢
            exact h
        obtain ⟨r, h1, h2, h3⟩ := go _ rfl
        exact ⟨r, hS r _ rfl h1, hI r _ rfl h2, h3⟩
    -- the noughts ahead of a piece
    have e3 : wrap64 ((p : Int) + ((padN p : Nat) : Int)) = ((p + padN p : Nat) : Int) := by rw [w64 (by unfold padN; split <;> omega) (by unfold padN; split <;> omega)]; omega
    by_cases hover : p + padN p > b.length
    · have h6 : leftOf p < 6 ∧ padN p = leftOf p := by
        unfold padN at hover ⊢
        split at hover <;> split <;> omega
      refine ⟨(out, good), Ev_succ ?_, Ev_succ ?_, fin⟩
      · simp only [spec_l3Read.l0]
        by_cases hlt : p < b.length
        · simp only [if_pos (show (p : Int) < (b.length : Int) by omega)]
          rw [left0 p (by omega)]
          simp only [if_pos (show (leftOf p : Int) < 6 by omega)]
          rw [← h6.2, e3]
          simp only [if_pos (show ((p + padN p : Nat) : Int) > (b.length : Int) by omega)]
          exact Ev.now _
        · simp only [if_neg (show ¬ (p : Int) < (b.length : Int) by omega)]
          exact Ev.now _
      · simp only [impl_readLog.l0]
        refine Ev.bind (Ev_some (padding0 p (by omega))) ?_
        simp only [e3, if_pos (show ((p + padN p : Nat) : Int) > (b.length : Int) by omega)]
        exact stopJ true _ rfl
    · have hcl : ((b.take (p + padN p)).drop p).length = padN p := by rw [List.length_drop, List.length_take]; omega
      have hcb : Bytes ((b.take (p + padN p)).drop p) := (hb.take _).drop _
      have hz := zeros_iff _ hcb (padN p) hcl
      have hce := contains_ev ((b.take (p + padN p)).drop p) (by omega)
      have impl1 : ∀ (r : List (List Int) × Int) (qb : Bool), ((b.take (p + padN p)).drop p).any (fun x => x != 0) = qb → Ev (fun k => impl_readLog.j1 k b out good op now (p : Int) ((padN p : Nat) : Int) qb) r → Ev (fun k => impl_readLog.l0 k b out good op now (p : Int)) r := by
        intro r qb hqb h
        refine Ev_succ ?_
        simp only [impl_readLog.l0]
        refine Ev.bind (Ev_some (padding0 p (by omega))) ?_
        simp only [e3, if_neg (show ¬ ((p + padN p : Nat) : Int) > (b.length : Int) by omega), if_pos (show 0 ≤ (p : Int) by omega), if_pos (show (p : Int) ≤ ((p + padN p : Nat) : Int) by omega), if_pos (show ((p + padN p : Nat) : Int) ≤ (b.length : Int) by omega), Int.toNat_natCast]
        refine Ev.bind hce ?_
        rw [hqb]
        exact h
      have spec1 : 0 < padN p → ∀ (r : List (List Int) × Int), Ev (fun k => if (strOfNums ((b.take (p + padN p)).drop p)).toList = (strOfNums (List.replicate (padN p) 0)).toList then (spec_l3Read.l0 k b out good ((p + padN p : Nat) : Int) now op) else (some (out, good))) r → Ev (fun k => spec_l3Read.l0 k b out good (p : Int) now op) r := by
        intro hpos r h
        have h6 : leftOf p < 6 ∧ padN p = leftOf p := by
          unfold padN at hpos ⊢
          split at hpos <;> split <;> omega
        refine Ev_succ ?_
        simp only [spec_l3Read.l0]
        simp only [if_pos (show (p : Int) < (b.length : Int) by omega)]
        rw [left0 p (by omega)]
        simp only [if_pos (show (leftOf p : Int) < 6 by omega)]
        rw [← h6.2]
        simp only [e3, if_neg (show ¬ ((p + padN p : Nat) : Int) > (b.length : Int) by omega), if_pos (show 0 ≤ (p : Int) by omega), if_pos (show (p : Int) ≤ ((p + padN p : Nat) : Int) by omega), if_pos (show ((p + padN p : Nat) : Int) ≤ (b.length : Int) by omega), Int.toNat_natCast, if_pos (show 0 ≤ ((padN p : Nat) : Int) by omega), if_pos (Nat.le_trans (show padN p ≤ 20000 by omega) (by decide : 20000 ≤ 281474976710656))]
        exact h
      cases hany : ((b.take (p + padN p)).drop p).any (fun x => x != 0) with
      | true =>
        have hpos : 0 < padN p := by
          rcases Nat.eq_zero_or_pos (padN p) with h | h
          · have hnil : (b.take (p + padN p)).drop p = [] := List.length_eq_zero_iff.1 (hcl.trans h)
            rw [hnil] at hany
            cases hany
          · exact h
        refine ⟨(out, good), spec1 hpos _ ?_, impl1 _ true hany (stopJ true _ rfl), fin⟩
        simp only [if_neg (fun h => by rw [hz.1 h] at hany; cases hany)]
        exact Ev.now _
      | false =>
        obtain ⟨r, h1, h2, h3⟩ := tail (padN p) (by omega) (fun hlt => by
          unfold padN leftOf
          split <;> omega)
        refine ⟨r, ?_, impl1 _ false hany h2, h3⟩
        rcases Nat.eq_zero_or_pos (padN p) with h | h
        · rw [h, Nat.add_zero] at h1; exact h1
        · refine spec1 h _ ?_
          simp only [if_pos (hz.2 hany)]
          exact h1
theorem readLog_both (b : List Int) (hb : Bytes b) : ∃ r : List (List Int) × Int × Bool, Ev (fun k => spec_ReadLog.f k b) r ∧ Ev (fun k => impl_ReadLog.f k b) r ∧ r.1.length ≤ 20000 ∧ ∀ x ∈ r.1, x.length ≤ 20000 := by
  unfold spec_ReadLog.f impl_ReadLog.f
  by_cases h : (b.length : Int) > 20000
  · simp only [if_pos h]
    exact ⟨([], 0, false), Ev.now _, Ev.now _, by simp, by simp⟩
  · simp only [if_neg h]
    obtain ⟨r, h1, h2, h3, h4⟩ := read_both b hb (by omega) b.length 0 [] 0 [] false (by omega) (by omega) (by simp) (by simp) (by simp)
    refine ⟨(r.1, r.2, true), Ev.bind ?_ (Ev.now _), Ev.bind ?_ (Ev.now _), h3, h4⟩
    · unfold spec_l3Read.f; exact h1
    · unfold impl_readLog.f; exact h2
/-! ### rows of rows marked and held -/
def markedRows (m : Int) : List (List Int) → List (List Int)
  | [] => []
  | x :: t => markedFrom m x.length :: markedRows (m + x.length) t
theorem markedRows_length (m : Int) (l : List (List Int)) : (markedRows m l).length = l.length := by
  induction l generalizing m with
  | nil => rfl
  | cons x t ih => simp [markedRows, ih]
theorem rdL1_lt {l : List (List Int)} {i : Nat} (h : i < l.length) : rd_L1 l (i : Int) = l[i] := by simp [rd_L1, h]
def sumL (l : List (List Int)) : Nat := (l.map List.length).sum
theorem sumL_le (l : List (List Int)) (hs : ∀ x ∈ l, x.length ≤ 20000) : sumL l ≤ l.length * 20000 := by
  induction l with
  | nil => simp [sumL]
  | cons a t ih =>
    have h1 := hs a (List.mem_cons_self ..)
    have h2 := ih (fun x hx => hs x (List.mem_cons_of_mem _ hx))
    unfold sumL at h2 ⊢
    rw [List.map_cons, List.sum_cons, List.length_cons]
    omega
theorem markByteSS_ev (l : List (List Int)) (hl : l.length ≤ 20000) (hs : ∀ x ∈ l, x.length ≤ 20000) : Ev (fun k => laws_markByteSS.f k l 1) (1 + (sumL l : Int), markedRows 1 l) := by
  have rows : ∀ (l : List (List Int)) (m : Int), (∀ x ∈ l, x.length ≤ 20000) → 0 ≤ m → m + 20000 * (l.length : Int) ≤ 1000000000000 → Ev (fun k => laws_markByteSS.l k l m) (m + (sumL l : Int), markedRows m l) := by
    intro l
    induction l with
    | nil => intro m _ _ _; exact Ev_cast (Ev.now _) (by simp [sumL, markedRows])
    | cons x t ih =>
      intro m hs h0 h1
      rw [List.length_cons] at h1
      have hx := hs x (List.mem_cons_self ..)
      simp only [laws_markByteSS.l]
      refine Ev.bind (markByteS_ev x m (by omega) h0 (by omega)) ?_
      refine Ev.bind (ih (m + x.length) (fun y hy => hs y (List.mem_cons_of_mem _ hy)) (by omega) (by omega)) ?_
      refine Ev_cast (Ev.now _) ?_
      simp only [markedRows, sumL, List.map_cons, List.sum_cons, Prod.mk.injEq, and_true]
      omega
  unfold laws_markByteSS.f
  simp only [if_pos (show l.length ≤ 4611686018427387904 by omega)]
  exact rows l 1 hs (by omega) (by omega)
theorem heldByteSS_ev (l : List (List Int)) (hl : l.length ≤ 20000) (hs : ∀ x ∈ l, x.length ≤ 20000) : Ev (fun k => laws_heldByteSS.f k (markedRows 1 l) 1) (1 + (sumL l : Int)) := by
  have rows : ∀ (t : List (List Int)) (pre : List (List Int)) (m : Int), (∀ x ∈ t, x.length ≤ 20000) → pre.length + t.length ≤ 20000 → 0 ≤ m → m + 20000 * (t.length : Int) ≤ 1000000000000 → Ev (fun k => laws_heldByteSS.l0 k (pre ++ markedRows m t) m (pre.length : Int)) (m + (sumL t : Int)) := by
    intro t
    induction t with
    | nil =>
      intro pre m _ _ _ _
      refine Ev_succ ?_
      simp only [laws_heldByteSS.l0, markedRows, List.append_nil]
      simp only [if_neg (show ¬ (pre.length : Int) < (pre.length : Int) by omega)]
      exact Ev_cast (Ev.now _) (by simp [sumL])
    | cons x t ih =>
      intro pre m hs hle h0 h1
      rw [List.length_cons] at hle h1
      have hx := hs x (List.mem_cons_self ..)
      refine Ev_succ ?_
      simp only [laws_heldByteSS.l0]
      have hlen : pre.length < (pre ++ markedRows m (x :: t)).length := by rw [List.length_append, markedRows_length, List.length_cons]; omega
      simp only [if_pos (show (pre.length : Int) < ((pre ++ markedRows m (x :: t)).length : Int) by omega), if_pos (show 0 ≤ (pre.length : Int) by omega)]
      rw [rdL1_lt hlen, w64 (by omega) (by omega)]
      have hg : (pre ++ markedRows m (x :: t))[pre.length]'hlen = markedFrom m x.length := by simp [markedRows]
      rw [hg]
      refine Ev.bind (heldByteS_ev m x.length (by omega) h0 (by omega)) ?_
      simp only [if_neg (show ¬ m + (x.length : Int) < 0 by omega)]
      have := ih (pre ++ [markedFrom m x.length]) (m + x.length) (fun y hy => hs y (List.mem_cons_of_mem _ hy)) (by rw [List.length_append, List.length_singleton]; omega) (by omega) (by omega)
      rw [List.append_assoc, List.singleton_append, List.length_append, List.length_singleton] at this
      refine Ev_cast this ?_
      simp only [sumL, List.map_cons, List.sum_cons]
      omega
  unfold laws_heldByteSS.f
  exact Ev_cast (rows l [] 1 hs (by simpa using hl) (by omega) (by omega)) rfl
theorem eqByteSS_same (l : List (List Int)) (hl : l.length ≤ 20000) (hs : ∀ x ∈ l, x.length ≤ 20000) : Ev (fun k => laws_eqByteSS.f k l l) true := by
  have loop : ∀ (d i : Nat), l.length - i = d → i ≤ l.length → Ev (fun k => laws_eqByteSS.l0 k l l (i : Int)) true := by
    intro d
    induction d with
    | zero =>
      intro i hd hi
      refine Ev_succ ?_
      simp only [laws_eqByteSS.l0]
      simp only [if_neg (show ¬ (i : Int) < (l.length : Int) by omega)]
      exact Ev.now _
    | succ d ih =>
      intro i hd hi
      refine Ev_succ ?_
      have hx := hs (l[i]'(by omega)) (List.getElem_mem _)
      simp only [laws_eqByteSS.l0]
      simp only [if_pos (show (i : Int) < (l.length : Int) by omega), if_pos (show 0 ≤ (i : Int) by omega)]
      rw [rdL1_lt (by omega), w64 (by omega) (by omega)]
      refine Ev.bind (eqByteS_same _ _ (by omega) rfl) ?_
      simp only [if_true]
      exact ih (i + 1) (by omega) (by omega)
  unfold laws_eqByteSS.f
  simp only [if_true]
  exact loop l.length 0 (by omega) (by omega)
theorem FnExactReadLog : laws_FnExactReadLog.Pure := by
  intro l h0
  have hm : maxLen ≤ 9223372036854775807 := by decide
  refine Ev.rounds ?_
  unfold laws_FnExactReadLog.f
  by_cases hbig : (l.length : Int) > 1048576
  · simp only [if_pos hbig]; exact Ev.now _
  simp only [if_neg hbig]
  have hb : Bytes l := Bytes.wf h0.2
  have ht := toByteS_ev l (by omega)
  obtain ⟨r, e1, e2, hr, hrs⟩ := readLog_both l hb
  have heq := eqByteSS_same r.1 hr hrs
  refine Ev.bind ht (Ev.bind e1 (Ev.bind ht (Ev.bind e2 (Ev.bind heq ?_))))
  simp only [if_true, bne_self_eq_false]
  refine Ev_succ ?_
  simp only [laws_FnExactReadLog.j0, Bool.false_eq_true, if_false]
  refine Ev.bind ht (Ev.bind (eqByteS_same l l (by omega) rfl) ?_)
  simp only [if_true]
  refine Ev.bind (markByteS_ev l 1 (by omega) (by omega) (by omega)) ?_
  simp only [if_neg (show ¬ (1 : Int) + (l.length : Int) < 0 by omega)]
  refine Ev.bind heq ?_
  simp only [if_true, bne_self_eq_false]
  refine Ev_succ ?_
  simp only [laws_FnExactReadLog.j1, Bool.false_eq_true, if_false]
  refine Ev.bind (markByteSS_ev r.1 hr hrs) ?_
  refine Ev.bind (heldByteSS_ev r.1 hr hrs) ?_
  simp only [if_neg (show ¬ (1 : Int) + (sumL r.1 : Int) < 0 by omega), if_true]
  refine Ev.bind ht (Ev.bind e2 (Ev.bind heq ?_))
  simp only [if_true, bne_self_eq_false]
  refine Ev_succ ?_
  simp only [laws_FnExactReadLog.j2, Bool.false_eq_true, if_false]
  refine Ev.bind (heldByteSS_ev r.1 hr hrs) ?_
  simp only [if_neg (show ¬ (1 : Int) + (sumL r.1 : Int) < 0 by omega), if_true]
  exact Ev.now _
end Go.Proofs.Ytolpkckaijeahaa.Pure
