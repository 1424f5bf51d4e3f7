/- The law FnExactLogOf answers true, for all records. -/
import Derived.Test.YtolpkckaijeahaaPFnExactLogOfx6
import Derived.Test.YtolpkckaijeahaaPFnExactLogOfx6
set_option linter.unusedVariables false
set_option linter.unusedSimpArgs false
namespace Go.Proofs.Ytolpkckaijeahaa.Pure
open Go.RowKit Go.Proofs.Ytolpkckaijeahaa.PFnExactLogOf Go.Proofs.YtolpkckaijeahaaW Go.Proofs.YtolpkckaijeahaaW.PrintWords Go.Proofs.YtolpkckaijeahaaW.PrintLast Go.Proofs.YtolpkckaijeahaaW.PrintMore
/-! ### base: rounds, numbers -/
theorem Ev_succ {α : Type} {g : Nat → Option α} {r : α} (h : Ev (fun k => g (k + 1)) r) : Ev g r := Ev.step (fun _ => rfl) h
theorem Ev_some {α : Type} {o : Option α} {r : α} (h : o = some r) : Ev (fun _ => o) r := ⟨0, fun _ _ => h⟩
theorem Ev_cast {α : Type} {g : Nat → Option α} {r q : α} (h : Ev g r) (e : r = q) : Ev g q := e ▸ h
theorem w64 {n : Int} (h : -9223372036854775808 ≤ n) (h' : n ≤ 9223372036854775807) : wrap64 n = n := by unfold wrap64; omega
theorem wf_i64 {n : Int} (h : (Lit.int .i64 n).wf = true) : -9223372036854775808 ≤ n ∧ n ≤ 9223372036854775807 := by
  simp only [Lit.wf, IntKind.min, IntKind.max, IntKind.signed, IntKind.bits, Bool.and_eq_true, decide_eq_true_eq, if_true] at h
  omega
theorem wf_u64 {n : Int} (h : (Lit.int .u64 n).wf = true) : 0 ≤ n ∧ n ≤ 18446744073709551615 := by
  simp only [Lit.wf, IntKind.min, IntKind.max, IntKind.signed, IntKind.bits, Bool.and_eq_true, decide_eq_true_eq, if_true] at h
  simp at h
  omega
theorem wf_u8 {n : Int} (h : (Lit.int .u8 n).wf = true) : 0 ≤ n ∧ n ≤ 255 := by
  simp only [Lit.wf, IntKind.min, IntKind.max, IntKind.signed, IntKind.bits, Bool.and_eq_true, decide_eq_true_eq, if_true] at h
  simp at h
  omega
theorem wrap_u64 (n : Int) : IntKind.u64.wrap n = n % 18446744073709551616 := by simp [IntKind.wrap, IntKind.bits, IntKind.signed]
theorem wrap_u32 (n : Int) : IntKind.u32.wrap n = n % 4294967296 := by simp [IntKind.wrap, IntKind.bits, IntKind.signed]
/-- A list of bytes. -/
def Bytes (l : List Int) : Prop := ∀ x ∈ l, 0 ≤ x ∧ x ≤ 255
theorem Bytes.wf {l : List Int} (h : ∀ x ∈ l, (Lit.int .u8 x).wf = true) : Bytes l := fun x hx => wf_u8 (h x hx)
theorem Bytes.nil : Bytes [] := fun x hx => by cases hx
theorem Bytes.app {a b : List Int} (h : Bytes a) (k : Bytes b) : Bytes (a ++ b) := fun x hx => by
  rcases List.mem_append.1 hx with h' | h'
  · exact h x h'
  · exact k x h'
theorem Bytes.one {x : Int} (h : 0 ≤ x) (h' : x ≤ 255) : Bytes [x] := fun y hy => (List.mem_singleton.1 hy) ▸ ⟨h, h'⟩
theorem Bytes.sub {a b : List Int} (h : Bytes a) (k : ∀ x ∈ b, x ∈ a) : Bytes b := fun x hx => h x (k x hx)
theorem Bytes.take {a : List Int} (h : Bytes a) (n : Nat) : Bytes (a.take n) := h.sub fun _ hx => List.mem_of_mem_take hx
theorem Bytes.drop {a : List Int} (h : Bytes a) (n : Nat) : Bytes (a.drop n) := h.sub fun _ hx => List.mem_of_mem_drop hx
theorem rd_lt {l : List Int} {i : Nat} (h : i < l.length) : rd l (i : Int) = l[i] := by simp [rd, h]
theorem Bytes.rd {l : List Int} (h : Bytes l) (i : Int) : 0 ≤ rd l i ∧ rd l i ≤ 255 := by
  unfold PrintWords.rd
  by_cases hi : i.toNat < l.length
  · rw [List.getD_eq_getElem?_getD, List.getElem?_eq_getElem hi]; exact h _ (List.getElem_mem hi)
  · rw [List.getD_eq_getElem?_getD, List.getElem?_eq_none (by omega)]; simp
theorem drop_cons {α : Type} {l : List α} {i : Nat} (h : i < l.length) : l.drop i = l[i] :: l.drop (i + 1) := List.drop_eq_getElem_cons h
/-! ### the laws' own words on bytes -/
theorem eqByteS_l0 (a b : List Int) (hl : a.length = b.length) (hb : a.length ≤ 4611686018427387904) :
    ∀ (d i : Nat), a.length - i = d → i ≤ a.length → Ev (fun k => laws_eqByteS.l0 k a b (i : Int)) (decide (a.drop i = b.drop i)) := by
  intro d
  induction d with
  | zero =>
    intro i hd hi
    refine Ev_succ ?_
    simp only [laws_eqByteS.l0]
    simp only [if_neg (show ¬ (i : Int) < (a.length : Int) by omega)]
    exact Ev_cast (Ev.now _) (by rw [List.drop_eq_nil_of_le (by omega), List.drop_eq_nil_of_le (by omega)]; simp)
  | succ d ih =>
    intro i hd hi
    refine Ev_succ ?_
    simp only [laws_eqByteS.l0]
    simp only [if_pos (show (i : Int) < (a.length : Int) by omega), if_pos (show 0 ≤ (i : Int) by omega), if_pos (show (i : Int) < (b.length : Int) by omega)]
    rw [rd_lt (by omega), rd_lt (by omega), w64 (by omega) (by omega), drop_cons (l := a) (by omega), drop_cons (l := b) (i := i) (by omega)]
    by_cases e : a[i]'(by omega) = b[i]'(by omega)
    · simp only [if_pos e]
      exact Ev_cast (ih (i + 1) (by omega) (by omega)) (decide_eq_decide.2 (by rw [List.cons.injEq]; exact ⟨fun h => ⟨e, h⟩, fun h => h.2⟩))
    · simp only [if_neg e]
      exact Ev_cast (Ev.now _) (Eq.symm (decide_eq_false (by rw [List.cons.injEq]; exact fun h => e h.1)))
theorem eqByteS_ev (a b : List Int) (ha : a.length ≤ 4611686018427387904) : Ev (fun k => laws_eqByteS.f k a b) (decide (a = b)) := by
  unfold laws_eqByteS.f
  by_cases h : a.length = b.length
  · simp only [if_pos (show (a.length : Int) = (b.length : Int) by omega)]
    exact eqByteS_l0 a b h ha a.length 0 (by omega) (by omega)
  · simp only [if_neg (show ¬ (a.length : Int) = (b.length : Int) by omega)]
    exact Ev_cast (Ev.now _) (by simp; intro e; exact h (by rw [e]))
theorem eqByteS_same (a b : List Int) (ha : a.length ≤ 4611686018427387904) (e : a = b) : Ev (fun k => laws_eqByteS.f k a b) true := Ev_cast (eqByteS_ev a b ha) (by simp [e])
/-- What a list reads once it was marked from m on. -/
def markedFrom (m : Int) : Nat → List Int
  | 0 => []
  | n + 1 => (m % 256) :: markedFrom (m + 1) n
theorem markedFrom_length (n : Nat) : ∀ m, (markedFrom m n).length = n := by
  induction n with
  | zero => intro m; rfl
  | succ n ih => intro m; simp [markedFrom, ih]
theorem markByteS_l0 (m : Int) : ∀ (d i : Nat) (l : List Int), l.length - i = d → i ≤ l.length → l.length ≤ 1152921504606846976 → 0 ≤ m → m ≤ 1152921504606846976 + i →
    Ev (fun k => laws_markByteS.l0 k l m (i : Int)) (m + d, l.take i ++ markedFrom m d) := by
  intro d
  induction d generalizing m with
  | zero =>
    intro i l hd hi hl h0 hm
    refine Ev_succ ?_
    simp only [laws_markByteS.l0]
    simp only [if_neg (show ¬ (i : Int) < (l.length : Int) by omega)]
    exact Ev_cast (Ev.now _) (by rw [List.take_of_length_le (by omega)]; simp [markedFrom])
  | succ d ih =>
    intro i l hd hi hl h0 hm
    refine Ev_succ ?_
    simp only [laws_markByteS.l0]
    simp only [if_pos (show (i : Int) < (l.length : Int) by omega), if_pos (show 0 ≤ (i : Int) by omega)]
    rw [w64 (n := m + 1) (by omega) (by omega), w64 (by omega) (by omega)]
    refine Ev_cast (ih (m + 1) (i + 1) (l.set i (m % 256)) (by simp; omega) (by simp; omega) (by simpa using hl) (by omega) (by omega)) ?_
    refine Prod.ext (by simp; omega) ?_
    show (l.set i (m % 256)).take (i + 1) ++ markedFrom (m + 1) d = l.take i ++ markedFrom m (d + 1)
    have : (l.set i (m % 256)).take (i + 1) = l.take i ++ [m % 256] := by
      apply List.ext_getElem?
      intro j
      rw [List.getElem?_take, List.getElem?_append, List.getElem?_set]
      have : (l.take i).length = i := by simp; omega
      rw [this]
      by_cases h1 : j < i
      · rw [if_pos (by omega), if_neg (by omega), if_pos h1, List.getElem?_take, if_pos h1]
      · by_cases h2 : j = i
        · subst h2; simp; omega
        · rw [if_neg (by omega), if_neg h1]; simp; omega
    rw [this]; simp [markedFrom]
theorem markByteS_ev (l : List Int) (m : Int) (hl : l.length ≤ 1152921504606846976) (h0 : 0 ≤ m) (hm : m ≤ 1152921504606846976) : Ev (fun k => laws_markByteS.f k l m) (m + l.length, markedFrom m l.length) := by
  unfold laws_markByteS.f
  exact Ev_cast (markByteS_l0 m l.length 0 l (by omega) (by omega) hl h0 (by omega)) (by simp)
theorem heldByteS_l0 : ∀ (n : Nat) (m : Int) (i : Nat) (p : List Int), p.length = i → i + n ≤ 1152921504606846976 → 0 ≤ m → m ≤ 1152921504606846976 + i →
    Ev (fun k => laws_heldByteS.l0 k (p ++ markedFrom m n) m (i : Int)) (m + n) := by
  intro n
  induction n with
  | zero =>
    intro m i p hp hl h0 hm
    refine Ev_succ ?_
    simp only [laws_heldByteS.l0]
    simp only [markedFrom, List.append_nil, if_neg (show ¬ (i : Int) < (p.length : Int) by omega)]
    exact Ev_cast (Ev.now _) (by simp)
  | succ n ih =>
    intro m i p hp hl h0 hm
    refine Ev_succ ?_
    simp only [laws_heldByteS.l0]
    have hlen : (p ++ markedFrom m (n + 1)).length = i + n + 1 := by rw [List.length_append, markedFrom_length]; omega
    have hr : rd (p ++ markedFrom m (n + 1)) (i : Int) = m % 256 := by
      rw [rd_lt (by omega)]; simp [markedFrom, hp]
    simp only [if_pos (show (i : Int) < ((p ++ markedFrom m (n + 1)).length : Int) by omega), if_pos (show 0 ≤ (i : Int) by omega), hr, if_true]
    rw [w64 (n := m + 1) (by omega) (by omega), w64 (by omega) (by omega)]
    have e : p ++ markedFrom m (n + 1) = (p ++ [m % 256]) ++ markedFrom (m + 1) n := by simp [markedFrom]
    rw [e]
    exact Ev_cast (ih (m + 1) (i + 1) (p ++ [m % 256]) (by simp [hp]) (by omega) (by omega) (by omega)) (by omega)
theorem heldByteS_ev (m : Int) (n : Nat) (hl : n ≤ 1152921504606846976) (h0 : 0 ≤ m) (hm : m ≤ 1152921504606846976) : Ev (fun k => laws_heldByteS.f k (markedFrom m n) m) (m + n) := by
  unfold laws_heldByteS.f
  exact heldByteS_l0 n m 0 [] rfl (by omega) h0 (by omega)
theorem toByteS_l0 (l : List Int) : ∀ (d i : Nat) (o : List Int), l.length - i = d → i ≤ l.length → l.length ≤ 1152921504606846976 → o.length = l.length → o.take i = l.take i →
    Ev (fun k => laws_toByteS.l0 k l o (i : Int)) l := by
  intro d
  induction d with
  | zero =>
    intro i o hd hi hl ho ht
    refine Ev_succ ?_
    simp only [laws_toByteS.l0]
    simp only [if_neg (show ¬ (i : Int) < (l.length : Int) by omega)]
    exact Ev_cast (Ev.now _) (by rw [List.take_of_length_le (by omega), List.take_of_length_le (by omega)] at ht; exact ht)
  | succ d ih =>
    intro i o hd hi hl ho ht
    refine Ev_succ ?_
    simp only [laws_toByteS.l0]
    simp only [if_pos (show (i : Int) < (l.length : Int) by omega), if_pos (show 0 ≤ (i : Int) by omega), if_pos (show (i : Int) < (o.length : Int) by omega)]
    rw [rd_lt (by omega), w64 (by omega) (by omega)]
    refine ih (i + 1) _ (by omega) (by omega) hl (by simpa using ho) ?_
    apply List.ext_getElem?
    intro j
    rw [List.getElem?_take, List.getElem?_take]
    by_cases h1 : j < i
    · have := congrArg (fun x => x[j]?) ht
      simp only [List.getElem?_take, if_pos h1] at this
      rw [if_pos (by omega), if_pos (by omega), List.getElem?_set]
      simp only [Int.toNat_natCast]
      rw [if_neg (by omega), this]
    · by_cases h2 : j = i
      · subst h2
        rw [if_pos (by omega), if_pos (by omega)]
        simp [show j < l.length by omega, show j < o.length by omega]
      · rw [if_neg (by omega), if_neg (by omega)]
theorem toByteS_ev (l : List Int) (hl : l.length ≤ 281474976710656) : Ev (fun k => laws_toByteS.f k l) l := by
  unfold laws_toByteS.f
  simp only [if_pos (show 0 ≤ (l.length : Int) by omega), Int.toNat_natCast, if_pos hl]
  exact toByteS_l0 l l.length 0 _ (by omega) (by omega) (by omega) (by simp) (by simp)
theorem within_eq (a b c : Int) : impl_within.f a b c = some (decide (b ≤ a ∧ a ≤ c)) := by
  unfold impl_within.f
  by_cases h : a ≥ b
  · rw [if_pos h]; simp; intro; omega
  · rw [if_neg h]; simp; intro; omega
/-! ### PutFixed, ReadFixed -/
def fixedB : Nat → Nat → List Int
  | _, 0 => []
  | n, m + 1 => fixedB (n / 256) m ++ [((n % 256 : Nat) : Int)]
theorem fixedB_length : ∀ (m n : Nat), (fixedB n m).length = m := by
  intro m
  induction m with
  | zero => intro n; rfl
  | succ m ih => intro n; simp [fixedB, ih]
theorem fixedB_bytes : ∀ (m n : Nat), Bytes (fixedB n m) := by
  intro m
  induction m with
  | zero => intro n; exact Bytes.nil
  | succ m ih => intro n; exact (ih _).app (Bytes.one (by omega) (by omega))
theorem two_pow_8 (j : Nat) : (2 : Int) ^ (8 * j) = 256 ^ j := by rw [Int.pow_mul]; rfl
theorem shr8 (n j : Nat) (hj : j ≤ 8) : shr .i64 (n : Int) (8 * (j : Int)) = ((n / 256 ^ j : Nat) : Int) := by
  unfold shr
  rw [show (min (8 * (j : Int)).toNat IntKind.i64.bits) = 8 * j by simp [IntKind.bits]; omega, two_pow_8, Int.natCast_ediv, Int.natCast_pow]
  rfl
theorem spec_l1Fixed_l0 (n : Nat) : ∀ (j m : Nat), m + j ≤ 8 → Ev (fun k => spec_l1Fixed.l0 k (n : Int) (fixedB (n / 256 ^ j) m) ((j : Int) - 1)) (fixedB n (m + j)) := by
  intro j
  induction j with
  | zero =>
    intro m h
    refine Ev_succ ?_
    simp only [spec_l1Fixed.l0, if_neg (show ¬ ((0 : Nat) : Int) - 1 ≥ 0 by omega)]
    exact Ev_cast (Ev.now _) (by simp)
  | succ j ih =>
    intro m h
    refine Ev_succ ?_
    rw [show ((j + 1 : Nat) : Int) - 1 = (j : Int) by omega]
    simp only [spec_l1Fixed.l0]
    rw [w64 (n := 8 * (j : Int)) (by omega) (by omega), wrap_u64, show (8 * (j : Int)) % 18446744073709551616 = 8 * (j : Int) by omega, w64 (by omega) (by omega), shr8 n j (by omega)]
    have hl := fixedB_length m (n / 256 ^ (j + 1))
    simp only [if_pos (show (j : Int) ≥ 0 by omega), if_pos (show 0 ≤ 8 * (j : Int) by omega), if_pos (show (fixedB (n / 256 ^ (j + 1)) m).length < 140737488355328 by omega)]
    have e : fixedB (n / 256 ^ (j + 1)) m ++ [((n / 256 ^ j : Nat) : Int) % 256] = fixedB (n / 256 ^ j) (m + 1) := by
      simp only [fixedB]
      rw [Nat.div_div_eq_div_mul, ← Nat.pow_succ]
      congr 1
    rw [e]
    exact Ev_cast (ih (m + 1) (by omega)) (by congr 1; omega)
theorem fixedB_zero_div (n m : Nat) (h : m = 8 → n < 18446744073709551616) : True := trivial
theorem spec_l1Fixed_ev (n m : Nat) (h : m ≤ 8) : Ev (fun k => spec_l1Fixed.f k (n : Int) (m : Int)) (fixedB n m) := by
  unfold spec_l1Fixed.f
  rw [w64 (by omega) (by omega)]
  exact Ev_cast (spec_l1Fixed_l0 n m 0 (by omega)) (by simp)
/-- What PutFixed tells. -/
def putFixed (n m : Int) : List Int × Bool := if 0 ≤ n ∧ 1 ≤ m ∧ m ≤ 8 ∧ (m < 8 → n.toNat / 256 ^ m.toNat = 0) then (fixedB n.toNat m.toNat, true) else ([], false)
theorem impl_PutFixed_l0 : ∀ (j n : Nat) (tl : List Int), j + tl.length ≤ 8 → Ev (fun k => impl_PutFixed.l0 k (n : Int) (List.replicate j 0 ++ tl) ((j : Int) - 1)) (fixedB n j ++ tl, true) := by
  intro j
  induction j with
  | zero =>
    intro n tl h
    refine Ev_succ ?_
    simp only [impl_PutFixed.l0, if_neg (show ¬ ((0 : Nat) : Int) - 1 ≥ 0 by omega)]
    exact Ev_cast (Ev.now _) (by simp [fixedB])
  | succ j ih =>
    intro n tl h
    refine Ev_succ ?_
    rw [show ((j + 1 : Nat) : Int) - 1 = (j : Int) by omega]
    simp only [impl_PutFixed.l0]
    have hl : (List.replicate (j + 1) (0 : Int) ++ tl).length = j + 1 + tl.length := by simp
    simp only [if_pos (show (j : Int) ≥ 0 by omega), if_pos (show 0 ≤ (j : Int) by omega), if_pos (show (j : Int) < ((List.replicate (j + 1) (0 : Int) ++ tl).length : Int) by omega)]
    rw [w64 (by omega) (by omega)]
    have e : (List.replicate (j + 1) (0 : Int) ++ tl).set ((j : Int)).toNat ((n : Int) % 256) = List.replicate j 0 ++ ((n : Int) % 256 :: tl) := by
      rw [Int.toNat_natCast, List.replicate_succ', List.append_assoc, List.set_append_right _ _ (by simp)]
      simp
    rw [e, show (n : Int) / 256 = ((n / 256 : Nat) : Int) by omega]
    exact Ev_cast (ih (n / 256) ((n : Int) % 256 :: tl) (by simp; omega)) (by simp [fixedB])
theorem impl_PutFixed_ev (n m : Int) (hn : n ≤ 9223372036854775807) : Ev (fun k => impl_PutFixed.f k n m) (putFixed n m) := by
  have bad : Ev (fun k => impl_PutFixed.j0 k n m true) ([], false) := by
    refine Ev_succ ?_
    simp only [impl_PutFixed.j0, if_true]
    exact Ev.now _
  unfold impl_PutFixed.f putFixed
  by_cases h0 : n < 0
  · simp only [if_pos h0]; rw [if_neg (by omega)]; exact bad
  simp only [if_neg h0]
  refine Ev.bind (Ev_some (within_eq _ _ _)) ?_
  by_cases h : 1 ≤ m ∧ m ≤ 8
  · rw [decide_eq_true h]
    simp only [if_true]
    have good : Ev (fun k => impl_PutFixed.j0 k n m false) (fixedB n.toNat m.toNat, true) := by
      refine Ev_succ ?_
      simp only [impl_PutFixed.j0, Bool.false_eq_true, if_false, if_pos (show 0 ≤ m by omega), if_pos (show m.toNat ≤ 281474976710656 by omega)]
      rw [w64 (by omega) (by omega)]
      have := impl_PutFixed_l0 m.toNat n.toNat [] (by simp; omega)
      simp only [List.append_nil] at this
      rwa [show ((n.toNat : Nat) : Int) = n by omega, show ((m.toNat : Nat) : Int) = m by omega] at this
    obtain ⟨N, rfl⟩ := Int.eq_ofNat_of_zero_le (show 0 ≤ n by omega)
    obtain ⟨M, rfl⟩ := Int.eq_ofNat_of_zero_le (show 0 ≤ m by omega)
    simp only [Int.toNat_natCast] at good ⊢
    by_cases h8 : (M : Int) < 8
    · simp only [if_pos h8]
      rw [w64 (n := 8 * (M : Int)) (by omega) (by omega), shr8 N M (by omega)]
      simp only [if_pos (show 0 ≤ 8 * (M : Int) by omega)]
      by_cases hz : N / 256 ^ M = 0
      · rw [if_pos ⟨by omega, h.1, h.2, fun _ => hz⟩, show (((N / 256 ^ M : Nat) : Int) != 0) = false by rw [hz]; rfl]
        exact good
      · rw [if_neg (fun hh => hz (hh.2.2.2 h8)), show (((N / 256 ^ M : Nat) : Int) != 0) = true by simp only [bne_iff_ne]; omega]
        exact bad
    · simp only [if_neg h8]
      rw [if_pos ⟨by omega, h.1, h.2, fun h' => absurd h' h8⟩]
      exact good
  · rw [decide_eq_false h]
    simp only [Bool.false_eq_true, if_false]
    rw [if_neg (by omega)]
    exact bad
/-! ### the cyclic check -/
def crcBit (c : Int) : Int := if Go.bits .and .u32 c 1 = 1 then Go.bits .xor .u32 (c / 2) 2197175160 else c / 2
def crcBits : Nat → Int → Int
  | 0, c => c
  | n + 1, c => crcBits n (crcBit c)
def crcFrom (c : Int) : List Int → Int
  | [] => c
  | b :: t => crcFrom (crcBits 8 (Go.bits .xor .u32 c (b % 4294967296))) t
def crcOf (l : List Int) : Int := Go.bits .xor .u32 4294967295 (crcFrom 4294967295 l)
theorem bits_xor_comm (k : IntKind) (a b : Int) : Go.bits .xor k a b = Go.bits .xor k b a := by
  unfold Go.bits
  show k.wrap (((BitVec.ofInt k.bits a ^^^ BitVec.ofInt k.bits b).toNat : Nat) : Int) = k.wrap (((BitVec.ofInt k.bits b ^^^ BitVec.ofInt k.bits a).toNat : Nat) : Int)
  rw [BitVec.xor_comm]
theorem spec_l1Crc_l1 (l : List Int) (L I : Int) (r : Int) : ∀ (n : Nat) (c : Int), n ≤ 8 → Ev (fun k => spec_l1Crc.l0 k (crcBits n c) l L (wrap64 (I + 1))) r → Ev (fun k => spec_l1Crc.l1 k c (8 - (n : Int)) l L I) r := by
  intro n
  induction n with
  | zero =>
    intro c hn h
    refine Ev_succ ?_
    simp only [spec_l1Crc.l1]
    simp only [if_neg (show ¬ (8 : Int) - (0 : Nat) < 8 by omega)]
    exact h
  | succ n ih =>
    intro c hn h
    refine Ev_succ ?_
    simp only [spec_l1Crc.l1]
    simp only [if_pos (show (8 : Int) - ((n + 1 : Nat) : Int) < 8 by omega)]
    rw [w64 (n := (8 : Int) - ((n + 1 : Nat) : Int) + 1) (by omega) (by omega), show (8 : Int) - ((n + 1 : Nat) : Int) + 1 = 8 - (n : Int) by omega]
    have e : crcBits (n + 1) c = crcBits n (crcBit c) := rfl
    rw [e] at h
    by_cases hb : Go.bits .and .u32 c 1 = 1
    · simp only [if_pos hb]
      exact ih _ (by omega) (by rw [crcBit, if_pos hb] at h; exact h)
    · simp only [if_neg hb]
      exact ih _ (by omega) (by rw [crcBit, if_neg hb] at h; exact h)
theorem spec_l1Crc_l0 (l : List Int) (hl : l.length ≤ 4611686018427387904) : ∀ (d i : Nat) (c : Int), l.length - i = d → i ≤ l.length → Ev (fun k => spec_l1Crc.l0 k c l (l.length : Int) (i : Int)) (Go.bits .xor .u32 (crcFrom c (l.drop i)) 4294967295) := by
  intro d
  induction d with
  | zero =>
    intro i c hd hi
    refine Ev_succ ?_
    simp only [spec_l1Crc.l0]
    simp only [if_neg (show ¬ (i : Int) < (l.length : Int) by omega)]
    rw [List.drop_eq_nil_of_le (by omega)]
    exact Ev.now _
  | succ d ih =>
    intro i c hd hi
    refine Ev_succ ?_
    simp only [spec_l1Crc.l0]
    simp only [if_pos (show (i : Int) < (l.length : Int) by omega), if_pos (show 0 ≤ (i : Int) by omega)]
    have := spec_l1Crc_l1 l (l.length : Int) (i : Int) _ 8 (Go.bits .xor .u32 c (rd l (i : Int) % 4294967296)) (by omega) (by
      rw [w64 (by omega) (by omega)]
      exact ih (i + 1) _ (by omega) (by omega))
    rw [rd_lt (by omega)] at this ⊢
    rw [drop_cons (l := l) (i := i) (by omega)]
    exact this
theorem spec_l1Crc_ev (l : List Int) (hl : l.length ≤ 4611686018427387904) : Ev (fun k => spec_l1Crc.f k l) (crcOf l) := by
  unfold spec_l1Crc.f crcOf
  have := spec_l1Crc_l0 l hl l.length 0 4294967295 (by omega) (by omega)
  rw [bits_xor_comm]
  simpa using this
theorem impl_Crc32c_l1 (l : List Int) (L I : Int) (r : Int) : ∀ (n : Nat) (c : Int), n ≤ 8 → Ev (fun k => impl_Crc32c.l0 k (crcBits n c) l L (wrap64 (I + 1))) r → Ev (fun k => impl_Crc32c.l1 k c l L I (8 - (n : Int))) r := by
  intro n
  induction n with
  | zero =>
    intro c hn h
    refine Ev_succ ?_
    simp only [impl_Crc32c.l1]
    simp only [if_neg (show ¬ (8 : Int) - (0 : Nat) < 8 by omega)]
    exact h
  | succ n ih =>
    intro c hn h
    refine Ev_succ ?_
    simp only [impl_Crc32c.l1]
    simp only [if_pos (show (8 : Int) - ((n + 1 : Nat) : Int) < 8 by omega)]
    rw [w64 (n := (8 : Int) - ((n + 1 : Nat) : Int) + 1) (by omega) (by omega), show (8 : Int) - ((n + 1 : Nat) : Int) + 1 = 8 - (n : Int) by omega]
    have e : crcBits (n + 1) c = crcBits n (crcBit c) := rfl
    rw [e] at h
    by_cases hb : Go.bits .and .u32 c 1 = 1
    · simp only [if_pos hb]
      exact ih _ (by omega) (by rw [crcBit, if_pos hb] at h; exact h)
    · simp only [if_neg hb]
      exact ih _ (by omega) (by rw [crcBit, if_neg hb] at h; exact h)
theorem impl_Crc32c_l0 (l : List Int) (hl : l.length ≤ 4611686018427387904) : ∀ (d i : Nat) (c : Int), l.length - i = d → i ≤ l.length → Ev (fun k => impl_Crc32c.l0 k c l (l.length : Int) (i : Int)) (Go.bits .xor .u32 4294967295 (crcFrom c (l.drop i))) := by
  intro d
  induction d with
  | zero =>
    intro i c hd hi
    refine Ev_succ ?_
    simp only [impl_Crc32c.l0]
    simp only [if_neg (show ¬ (i : Int) < (l.length : Int) by omega)]
    rw [List.drop_eq_nil_of_le (by omega)]
    exact Ev.now _
  | succ d ih =>
    intro i c hd hi
    refine Ev_succ ?_
    simp only [impl_Crc32c.l0]
    simp only [if_pos (show (i : Int) < (l.length : Int) by omega), if_pos (show 0 ≤ (i : Int) by omega)]
    have := impl_Crc32c_l1 l (l.length : Int) (i : Int) _ 8 (Go.bits .xor .u32 c (rd l (i : Int) % 4294967296)) (by omega) (by
      rw [w64 (by omega) (by omega)]
      exact ih (i + 1) _ (by omega) (by omega))
    rw [rd_lt (by omega)] at this ⊢
    rw [drop_cons (l := l) (i := i) (by omega)]
    exact this
theorem impl_Crc32c_ev (l : List Int) (hl : l.length ≤ 4611686018427387904) : Ev (fun k => impl_Crc32c.f k l) (crcOf l) := by
  unfold impl_Crc32c.f crcOf
  have := impl_Crc32c_l0 l hl l.length 0 4294967295 (by omega) (by omega)
  simpa using this
/-! ### pieces of the log -/
theorem bits_u32_range (op : BinOp) (a b : Int) : 0 ≤ Go.bits op .u32 a b ∧ Go.bits op .u32 a b < 4294967296 := by
  unfold Go.bits
  simp only [wrap_u32]
  omega
theorem crcOf_range (l : List Int) : 0 ≤ crcOf l ∧ crcOf l < 4294967296 := bits_u32_range _ _ _
def leftOf (p : Nat) : Nat := 64 - p % 64
theorem left_eq (at_ n : Nat) (h : at_ + n ≤ 4611686018427387904) : wrap64 (64 - Int.tmod (wrap64 ((at_ : Int) + (n : Int))) 64) = (leftOf (at_ + n) : Int) := by
  rw [w64 (n := (at_ : Int) + (n : Int)) (by omega) (by omega), Int.tmod_eq_emod_of_nonneg (by omega)]
  unfold leftOf
  rw [w64 (by omega) (by omega)]
  omega
def checkB (kind : Int) (body : List Int) : List Int := fixedB (crcOf (kind :: body)).toNat 4
def pieceB (kind : Int) (body : List Int) : List Int := checkB kind body ++ ((body.length : Int) :: kind :: body)
theorem checkB_length (kind : Int) (body : List Int) : (checkB kind body).length = 4 := fixedB_length _ _
theorem pieceB_length (kind : Int) (body : List Int) : (pieceB kind body).length = body.length + 6 := by
  unfold pieceB
  rw [List.length_append, checkB_length]
  simp; omega
def kindOf (first last : Bool) : Int := if first = true then (if last = true then 1 else 2) else (if last = true then 4 else 3)
theorem take_len (rest : List Int) (n : Nat) (h : n ≤ rest.length) : (rest.take n).length = n := by rw [List.length_take]; omega
theorem spec_piece (at_ : Nat) (rest out : List Int) (first : Bool) (n : Nat) (hl : n ≤ rest.length) (hn : n ≤ 58) (ho : out.length ≤ 1000000000) (r : List Int)
    (hr : if n = rest.length then r = out ++ pieceB (kindOf first (decide (n = rest.length))) (rest.take n) else Ev (fun k => spec_l3Pieces.l0 k (at_ : Int) (rest.drop n) (out ++ pieceB (kindOf first (decide (n = rest.length))) (rest.take n)) false) r) :
    Ev (fun k => spec_l3Pieces.j1 k (at_ : Int) rest out first (n : Int)) r := by
  have e9 : ((n : Int) == (rest.length : Int)) = decide (n = rest.length) := by
    by_cases h : n = rest.length
    · simp [h]
    · rw [decide_eq_false h]; simp; omega
  have fin : Ev (fun k => spec_l3Pieces.j3 k (at_ : Int) rest out (n : Int) (decide (n = rest.length)) (kindOf first (decide (n = rest.length)))) r := by
    generalize hk : kindOf first (decide (n = rest.length)) = kind at hr ⊢
    have hkr : 1 ≤ kind ∧ kind ≤ 4 := by
      rw [← hk]; unfold kindOf
      repeat' split
      all_goals omega
    refine Ev_succ ?_
    simp only [spec_l3Pieces.j3, Option.bind_some, Int.toNat_natCast]
    rw [show kind % 256 = kind by omega]
    have ht := take_len rest n hl
    simp only [if_pos (show 0 ≤ (n : Int) by omega), if_pos (show (n : Int) ≤ (rest.length : Int) by omega), if_pos (show ([kind] : List Int).length + (rest.take n).length < 140737488355328 by simp; omega)]
    refine Ev.bind (spec_l1Crc_ev ([kind] ++ rest.take n) (by simp; omega)) ?_
    have hc := crcOf_range ([kind] ++ rest.take n)
    rw [w64 (by omega) (by omega), show crcOf ([kind] ++ rest.take n) = (((crcOf ([kind] ++ rest.take n)).toNat : Nat) : Int) by omega]
    refine Ev.bind (spec_l1Fixed_ev _ 4 (by omega)) ?_
    have h4 := fixedB_length 4 (crcOf ([kind] ++ rest.take n)).toNat
    simp only [if_pos (show out.length + (fixedB (crcOf ([kind] ++ rest.take n)).toNat 4).length < 140737488355328 by omega)]
    simp only [if_pos (show (out ++ fixedB (crcOf ([kind] ++ rest.take n)).toNat 4).length < 140737488355328 by rw [List.length_append]; omega)]
    simp only [if_pos (show (out ++ fixedB (crcOf ([kind] ++ rest.take n)).toNat 4 ++ [(n : Int) % 256]).length + ([kind] ++ rest.take n).length < 140737488355328 by rw [List.length_append, List.length_append, List.length_append, h4, ht]; simp; omega)]
    have e : out ++ fixedB (crcOf ([kind] ++ rest.take n)).toNat 4 ++ [(n : Int) % 256] ++ ([kind] ++ rest.take n) = out ++ pieceB kind (rest.take n) := by
      unfold pieceB checkB
      rw [ht, show (n : Int) % 256 = n by omega]
      simp
    rw [e]
    by_cases hlast : n = rest.length
    · rw [decide_eq_true hlast]
      simp only [if_true]
      rw [if_pos hlast] at hr
      rw [hr]
      exact Ev.now _
    · rw [decide_eq_false hlast]
      simp only [Bool.false_eq_true, if_false]
      rw [if_neg hlast] at hr
      exact hr
  refine Ev_succ ?_
  simp only [spec_l3Pieces.j1, e9]
  cases first with
  | true =>
    simp only [if_true]
    refine Ev_succ ?_
    simp only [spec_l3Pieces.j2]
    by_cases hlast : n = rest.length
    · rw [decide_eq_true hlast] at fin ⊢
      simp only [if_true]
      exact fin
    · rw [decide_eq_false hlast] at fin ⊢
      simp only [Bool.false_eq_true, if_false, if_true]
      exact fin
  | false =>
    simp only [Bool.false_eq_true, if_false]
    refine Ev_succ ?_
    simp only [spec_l3Pieces.j2, Bool.false_eq_true, if_false]
    by_cases hlast : n = rest.length
    · rw [decide_eq_true hlast] at fin ⊢
      simp only [if_true]
      exact fin
    · rw [decide_eq_false hlast] at fin ⊢
      simp only [Bool.false_eq_true, if_false]
      exact fin
theorem spec_head (at_ : Nat) (rest out : List Int) (first : Bool) (ha : at_ ≤ 100000000) (hrl : rest.length ≤ 100000000) (ho : out.length ≤ 1000000000) (r : List Int) :
    (leftOf (at_ + out.length) < 6 → Ev (fun k => spec_l3Pieces.l0 k (at_ : Int) rest (out ++ List.replicate (leftOf (at_ + out.length)) 0) first) r → Ev (fun k => spec_l3Pieces.l0 k (at_ : Int) rest out first) r) ∧
    (6 ≤ leftOf (at_ + out.length) → Ev (fun k => spec_l3Pieces.j1 k (at_ : Int) rest out first ((min (leftOf (at_ + out.length) - 6) rest.length : Nat) : Int)) r → Ev (fun k => spec_l3Pieces.l0 k (at_ : Int) rest out first) r) := by
  have hL : leftOf (at_ + out.length) ≤ 64 := by unfold leftOf; omega
  constructor
  · intro h hr
    refine Ev_succ ?_
    simp only [spec_l3Pieces.l0, left_eq at_ out.length (by omega), Int.toNat_natCast]
    simp only [if_pos (show ((leftOf (at_ + out.length) : Nat) : Int) < 6 by omega), if_pos (show 0 ≤ ((leftOf (at_ + out.length) : Nat) : Int) by omega), if_pos (show out.length + leftOf (at_ + out.length) < 140737488355328 by omega)]
    exact hr
  · intro h hr
    refine Ev_succ ?_
    simp only [spec_l3Pieces.l0, left_eq at_ out.length (by omega)]
    simp only [if_neg (show ¬ ((leftOf (at_ + out.length) : Nat) : Int) < 6 by omega)]
    rw [w64 (by omega) (by omega)]
    by_cases hg : (leftOf (at_ + out.length) : Int) - 6 > (rest.length : Int)
    · simp only [if_pos hg]
      rw [show ((min (leftOf (at_ + out.length) - 6) rest.length : Nat) : Int) = (rest.length : Int) by omega] at hr
      exact hr
    · simp only [if_neg hg]
      rw [show ((min (leftOf (at_ + out.length) - 6) rest.length : Nat) : Int) = (leftOf (at_ + out.length) : Int) - 6 by omega] at hr
      exact hr
theorem padding_eq (at_ n : Nat) (h : at_ + n ≤ 4611686018427387904) : impl_padding.f (wrap64 ((at_ : Int) + (n : Int))) = some ((if leftOf (at_ + n) < 6 then leftOf (at_ + n) else 0 : Nat) : Int) := by
  unfold impl_padding.f
  rw [left_eq at_ n h]
  by_cases h6 : leftOf (at_ + n) < 6
  · rw [if_pos (by omega), if_pos h6]
  · rw [if_neg (by omega), if_neg h6]; rfl
theorem impl_check_ev (kind : Int) (body : List Int) (hl : body.length ≤ 1000000000) : Ev (fun k => impl_check.f k kind body) (checkB kind body) := by
  unfold impl_check.f checkB
  simp only [Option.bind_some, if_pos (show ([kind] : List Int).length + body.length < 140737488355328 by simp; omega)]
  refine Ev.bind (impl_Crc32c_ev ([kind] ++ body) (by simp; omega)) ?_
  have hc := crcOf_range ([kind] ++ body)
  rw [w64 (by omega) (by omega)]
  refine Ev.bind (impl_PutFixed_ev _ 4 (by omega)) ?_
  unfold putFixed
  rw [if_pos ⟨by omega, by omega, by omega, fun _ => by
    rw [show (4 : Int).toNat = 4 by rfl, Nat.div_eq_of_lt]
    have : (crcOf ([kind] ++ body)).toNat < 4294967296 := by omega
    simpa using this⟩]
  exact Ev.now _
theorem impl_piece (at_ : Nat) (rest out : List Int) (first : Bool) (n : Nat) (hl : n ≤ rest.length) (hn : n ≤ 58) (ho : out.length ≤ 1000000000) (r : List Int)
    (hr : if n = rest.length then r = out ++ pieceB (kindOf first (decide (n = rest.length))) (rest.take n) else Ev (fun k => impl_logPieces.l0 k (at_ : Int) (rest.drop n) (out ++ pieceB (kindOf first (decide (n = rest.length))) (rest.take n)) false true) r) (b : Bool) (hb : b = (first && decide (n = rest.length))) :
    Ev (fun k => impl_logPieces.j1 k (at_ : Int) rest out (decide (n = rest.length)) (!first) (n : Int) 3 b) r := by
  have ht := take_len rest n hl
  have fin : ∀ kind : Int, kind = kindOf first (decide (n = rest.length)) → Ev (fun k => (impl_check.f k kind (rest.take n)).bind fun t => (if out.length + t.length < 140737488355328 then (if (out ++ t).length + ([(n : Int) % 256, kind] : List Int).length < 140737488355328 then (if (out ++ t ++ [(n : Int) % 256, kind]).length + (rest.take n).length < 140737488355328 then (impl_logPieces.l0 k (at_ : Int) (rest.drop n) (out ++ t ++ [(n : Int) % 256, kind] ++ rest.take n) (decide (n = rest.length)) true) else (none)) else (none)) else (none))) r := by
    intro kind hk
    refine Ev.bind (impl_check_ev kind _ (by omega)) ?_
    have h4 := checkB_length kind (rest.take n)
    simp only [if_pos (show out.length + (checkB kind (rest.take n)).length < 140737488355328 by omega), if_pos (show (out ++ checkB kind (rest.take n)).length + ([(n : Int) % 256, kind] : List Int).length < 140737488355328 by simp [h4]; omega), if_pos (show (out ++ checkB kind (rest.take n) ++ [(n : Int) % 256, kind]).length + (rest.take n).length < 140737488355328 by simp [h4]; omega)]
    have e : out ++ checkB kind (rest.take n) ++ [(n : Int) % 256, kind] ++ rest.take n = out ++ pieceB kind (rest.take n) := by
      unfold pieceB
      rw [ht, show (n : Int) % 256 = n by omega]
      simp
    rw [e, hk]
    by_cases hlast : n = rest.length
    · rw [if_pos hlast] at hr
      rw [hr]
      refine Ev_succ ?_
      rw [decide_eq_true hlast]
      simp only [impl_logPieces.l0, if_true]
      exact Ev.now _
    · rw [if_neg hlast] at hr
      rw [decide_eq_false hlast] at hr ⊢
      exact hr
  refine Ev_succ ?_
  simp only [impl_logPieces.j1, Option.bind_some, Int.toNat_natCast]
  simp only [if_pos (show 0 ≤ (n : Int) by omega), if_pos (show (n : Int) ≤ (rest.length : Int) by omega)]
  subst hb
  cases first with
  | true =>
    by_cases hlast : n = rest.length
    · rw [decide_eq_true hlast] at fin ⊢
      simp only [Bool.and_true, if_true]
      exact fin 1 rfl
    · rw [decide_eq_false hlast] at fin ⊢
      simp only [Bool.and_false, Bool.not_true, Bool.false_eq_true, if_false]
      exact fin 2 rfl
  | false =>
    simp only [Bool.false_and, Bool.not_false, Bool.false_eq_true, if_false, if_true]
    by_cases hlast : n = rest.length
    · rw [decide_eq_true hlast] at fin ⊢
      simp only [if_true]
      exact fin 4 rfl
    · rw [decide_eq_false hlast] at fin ⊢
      simp only [Bool.false_eq_true, if_false]
      exact fin 3 rfl
theorem impl_head (at_ : Nat) (rest out : List Int) (first : Bool) (ha : at_ ≤ 100000000) (hrl : rest.length ≤ 100000000) (ho : out.length ≤ 1000000000 - 100) (r : List Int) (o2 : List Int) (ho2 : o2 = out ++ List.replicate (if leftOf (at_ + out.length) < 6 then leftOf (at_ + out.length) else 0) 0)
    (h6 : 6 ≤ leftOf (at_ + o2.length)) (n : Nat) (hn : n = min (leftOf (at_ + o2.length) - 6) rest.length)
    (hr : ∀ b, b = (first && decide (n = rest.length)) → Ev (fun k => impl_logPieces.j1 k (at_ : Int) rest o2 (decide (n = rest.length)) (!first) (n : Int) 3 b) r) :
    Ev (fun k => impl_logPieces.l0 k (at_ : Int) rest out false (!first)) r := by
  have hL : leftOf (at_ + out.length) ≤ 64 := by unfold leftOf; omega
  have hL2 : leftOf (at_ + o2.length) ≤ 64 := by unfold leftOf; omega
  have hlen : o2.length ≤ out.length + 6 := by rw [ho2, List.length_append, List.length_replicate]; split <;> omega
  refine Ev_succ ?_
  simp only [impl_logPieces.l0, Bool.false_eq_true, if_false]
  refine Ev.bind (Ev_some (padding_eq at_ out.length (by omega))) ?_
  have hp : (if leftOf (at_ + out.length) < 6 then leftOf (at_ + out.length) else 0) ≤ 6 := by split <;> omega
  simp only [Int.toNat_natCast, Option.bind_some]
  rw [← ho2]
  generalize (if leftOf (at_ + out.length) < 6 then leftOf (at_ + out.length) else 0) = P at hp
  simp only [if_pos (show 0 ≤ (P : Int) by omega), if_pos (show out.length + P < 140737488355328 by omega), left_eq at_ o2.length (by omega)]
  rw [w64 (by omega) (by omega)]
  have em : mn ((leftOf (at_ + o2.length) : Int) - 6) (rest.length : Int) = (n : Int) := by unfold mn; rw [hn]; split <;> omega
  have e9 : ((n : Int) == (rest.length : Int)) = decide (n = rest.length) := by
    by_cases h : n = rest.length
    · simp [h]
    · rw [decide_eq_false h]; simp; omega
  rw [em, e9]
  cases first with
  | true =>
    simp only [Bool.not_true, Bool.false_eq_true, if_false]
    exact hr _ (by simp)
  | false =>
    simp only [Bool.not_false, if_true]
    exact hr _ (by simp)
theorem pieces_both (at_ : Nat) (ha : at_ ≤ 100000000) : ∀ (M : Nat) (rest out : List Int) (first : Bool), 3 * rest.length + (if leftOf (at_ + out.length) < 6 then 2 else if leftOf (at_ + out.length) = 6 then 1 else 0) ≤ M → out.length + 80 * M ≤ 500000000 →
    ∃ r, Ev (fun k => spec_l3Pieces.l0 k (at_ : Int) rest out first) r ∧ Ev (fun k => impl_logPieces.l0 k (at_ : Int) rest out false (!first)) r ∧ r.length ≤ out.length + 80 * (M + 1) := by
  intro M
  induction M using Nat.strongRecOn with
  | ind M ih =>
    intro rest out first hM hB
    have hrl : rest.length ≤ 100000000 := by omega
    -- the state behind the noughts
    obtain ⟨o2, ho2⟩ : ∃ o2, o2 = out ++ List.replicate (if leftOf (at_ + out.length) < 6 then leftOf (at_ + out.length) else 0) (0 : Int) := ⟨_, rfl⟩
    have hlen : o2.length = out.length + (if leftOf (at_ + out.length) < 6 then leftOf (at_ + out.length) else 0) := by rw [ho2, List.length_append, List.length_replicate]
    have hlen6 : o2.length ≤ out.length + 6 := by rw [hlen]; split <;> omega
    have h6 : 6 ≤ leftOf (at_ + o2.length) := by
      rw [hlen]
      unfold leftOf
      split <;> omega
    have h64 : leftOf (at_ + o2.length) ≤ 64 := by unfold leftOf; omega
    obtain ⟨n, hn⟩ : ∃ n, n = min (leftOf (at_ + o2.length) - 6) rest.length := ⟨_, rfl⟩
    have hnl : n ≤ rest.length := by omega
    have hn58 : n ≤ 58 := by omega
    obtain ⟨o3, ho3⟩ : ∃ o3, o3 = o2 ++ pieceB (kindOf first (decide (n = rest.length))) (rest.take n) := ⟨_, rfl⟩
    have hl3 : o3.length = o2.length + (n + 6) := by rw [ho3, List.length_append, pieceB_length, take_len rest n hnl]
    have key : ∃ r, (if n = rest.length then r = o3 else Ev (fun k => spec_l3Pieces.l0 k (at_ : Int) (rest.drop n) o3 false) r) ∧ (if n = rest.length then r = o3 else Ev (fun k => impl_logPieces.l0 k (at_ : Int) (rest.drop n) o3 false true) r) ∧ r.length ≤ out.length + 80 * (M + 1) := by
      by_cases hlast : n = rest.length
      · exact ⟨o3, by rw [if_pos hlast], by rw [if_pos hlast], by omega⟩
      · have hn2 : n = leftOf (at_ + o2.length) - 6 := by omega
        have hnext : leftOf (at_ + o3.length) = 64 := by
          rw [hl3]
          have : leftOf (at_ + o2.length) = 64 - (at_ + o2.length) % 64 := rfl
          unfold leftOf
          omega
        have hdl : (rest.drop n).length = rest.length - n := List.length_drop
        have hM2 : 3 * (rest.drop n).length + (if leftOf (at_ + o3.length) < 6 then 2 else if leftOf (at_ + o3.length) = 6 then 1 else 0) < M := by
          rw [hnext, if_neg (by omega), if_neg (by omega), hdl]
          by_cases hz : n = 0
          · -- the head of the piece took all that was left
            have hl6 : leftOf (at_ + o2.length) = 6 := by omega
            by_cases hc : leftOf (at_ + out.length) < 6
            · rw [if_pos hc] at hlen
              have : leftOf (at_ + o2.length) = 64 := by
                rw [hlen]; unfold leftOf at hc ⊢; omega
              omega
            · rw [if_neg hc] at hlen
              have : o2.length = out.length := by omega
              rw [this] at hl6
              rw [if_neg hc, if_pos hl6] at hM
              omega
          · omega
        obtain ⟨r, h1, h2, h3⟩ := ih _ hM2 (rest.drop n) o3 false (Nat.le_refl _) (by omega)
        exact ⟨r, by rw [if_neg hlast]; exact h1, by rw [if_neg hlast]; exact h2, by omega⟩
    obtain ⟨r, k1, k2, k3⟩ := key
    refine ⟨r, ?_, ?_, k3⟩
    · have hj := spec_piece at_ rest o2 first n hnl hn58 (by omega) r (by rw [← ho3]; exact k1)
      rw [hn] at hj
      have hh := (spec_head at_ rest o2 first ha hrl (by omega) r).2 h6 hj
      by_cases hc : leftOf (at_ + out.length) < 6
      · rw [if_pos hc] at ho2
        rw [ho2] at hh
        exact (spec_head at_ rest out first ha hrl (by omega) r).1 hc hh
      · rw [if_neg hc, List.replicate_zero, List.append_nil] at ho2
        rw [ho2] at hh
        exact hh
    · refine impl_head at_ rest out first ha hrl (by omega) r o2 ho2 h6 n hn (fun b hb => ?_)
      exact impl_piece at_ rest o2 first n hnl hn58 (by omega) r (by rw [← ho3]; exact k2) b hb
theorem logPieces_both (at_ : Nat) (ha : at_ ≤ 100000000) (l : List Int) (hl : l.length ≤ 2000) : ∃ r, Ev (fun k => spec_l3Pieces.f k (at_ : Int) l) r ∧ Ev (fun k => impl_logPieces.f k (at_ : Int) l) r ∧ r.length ≤ 1000000 := by
  obtain ⟨o2, ho2⟩ : ∃ o2, o2 = List.replicate (if leftOf (at_ + 0) < 6 then leftOf (at_ + 0) else 0) (0 : Int) := ⟨_, rfl⟩
  have hlen : o2.length = (if leftOf (at_ + 0) < 6 then leftOf (at_ + 0) else 0) := by rw [ho2, List.length_replicate]
  have hlen6 : o2.length ≤ 6 := by rw [hlen]; split <;> omega
  obtain ⟨r, h1, h2, h3⟩ := pieces_both at_ ha (3 * l.length + 2) l o2 true (by split <;> (try split) <;> omega) (by omega)
  refine ⟨r, ?_, ?_, by omega⟩
  · unfold spec_l3Pieces.f
    by_cases hc : leftOf (at_ + 0) < 6
    · rw [if_pos hc] at ho2
      refine (spec_head at_ l [] true ha (by omega) (by simp) r).1 hc ?_
      rw [List.nil_append]
      rw [ho2] at h1
      exact h1
    · rw [if_neg hc, List.replicate_zero] at ho2
      rw [ho2] at h1
      exact h1
  · unfold impl_logPieces.f
    have hp := padding_eq at_ 0 (by omega)
    rw [show wrap64 ((at_ : Int) + ((0 : Nat) : Int)) = (at_ : Int) by rw [w64 (by omega) (by omega)]; simp] at hp
    refine Ev.bind (Ev_some hp) ?_
    simp only [Int.toNat_natCast]
    rw [← ho2, ← hlen]
    simp only [if_pos (show 0 ≤ (o2.length : Int) by omega), if_pos (show o2.length ≤ 281474976710656 by omega)]
    exact h2
/-! ### logs -/
theorem rdL1_lt {l : List (List Int)} {i : Nat} (h : i < l.length) : rd_L1 l (i : Int) = l[i] := by simp [rd_L1, h]
theorem szB_eq (l : List Int) (a : Int) (h0 : 0 ≤ a) (h1 : a ≤ 1048576) (hl : l.length ≤ 9223372036854775807) : laws_szByteS.f l a = some (if a - l.length < 0 then -1 else a - l.length) := by
  unfold laws_szByteS.f
  rw [w64 (by omega) (by omega)]
  split <;> rfl
theorem szByteSS_ev (l : List (List Int)) (hl : l.length ≤ 9223372036854775807) (hs : ∀ x ∈ l, x.length ≤ 9223372036854775807) :
    ∃ z, Ev (fun k => laws_szByteSS.f k l 1048576) z ∧ (z < 0 ∨ (l.length ≤ 1048576 ∧ ∀ x ∈ l, x.length ≤ 1048576)) := by
  have loop : ∀ (d i : Nat) (a : Int), l.length - i = d → i ≤ l.length → l.length ≤ 1048576 → 0 ≤ a → a ≤ 1048576 → ∃ z, Ev (fun k => laws_szByteSS.l0 k l a (i : Int)) z ∧ (z < 0 ∨ ∀ x ∈ l.drop i, x.length ≤ 1048576) := by
    intro d
    induction d with
    | zero =>
      intro i a hd hi hl2 h0 h1
      refine ⟨a, Ev_succ ?_, .inr (by rw [List.drop_eq_nil_of_le (by omega)]; intro s hs; cases hs)⟩
      simp only [laws_szByteSS.l0]
      simp only [if_neg (show ¬ (i : Int) < (l.length : Int) by omega)]
      exact Ev.now _
    | succ d ih =>
      intro i a hd hi hl2 h0 h1
      have hx := hs (l[i]'(by omega)) (List.getElem_mem _)
      have hz1 := szB_eq (l[i]'(by omega)) a h0 h1 hx
      by_cases hn : a - ((l[i]'(by omega)).length : Int) < 0
      · rw [if_pos hn] at hz1
        refine ⟨-1, Ev_succ ?_, .inl (by omega)⟩
        simp only [laws_szByteSS.l0]
        simp only [if_pos (show (i : Int) < (l.length : Int) by omega), if_pos (show 0 ≤ (i : Int) by omega)]
        rw [rdL1_lt (by omega)]
        refine Ev.bind (Ev_some hz1) ?_
        simp only [if_pos (show (-1 : Int) < 0 by omega)]
        exact Ev.now _
      · rw [if_neg hn] at hz1
        obtain ⟨z, hz, hz3⟩ := ih (i + 1) (a - ((l[i]'(by omega)).length : Int)) (by omega) (by omega) hl2 (by omega) (by omega)
        refine ⟨z, Ev_succ ?_, ?_⟩
        · simp only [laws_szByteSS.l0]
          simp only [if_pos (show (i : Int) < (l.length : Int) by omega), if_pos (show 0 ≤ (i : Int) by omega)]
          rw [rdL1_lt (by omega), w64 (n := (i : Int) + 1) (by omega) (by omega)]
          refine Ev.bind (Ev_some hz1) ?_
          simp only [if_neg hn]
          exact hz
        · rcases hz3 with h | h
          · exact .inl h
          · refine .inr ?_
            rw [List.drop_eq_getElem_cons (by omega)]
            intro x hx
            rcases List.mem_cons.1 hx with rfl | hx
            · omega
            · exact h x hx
  unfold laws_szByteSS.f
  rw [w64 (by omega) (by omega)]
  by_cases hn : (1048576 : Int) - l.length < 0
  · exact ⟨-1, by simp only [if_pos hn]; exact Ev.now _, .inl (by omega)⟩
  · simp only [if_neg hn]
    obtain ⟨z, hz, hz2⟩ := loop l.length 0 (1048576 - l.length) (by omega) (by omega) (by omega) (by omega) (by omega)
    exact ⟨z, hz, hz2.imp id (fun h => ⟨by omega, by simpa using h⟩)⟩
theorem toByteSS_l0 (l : List (List Int)) (hs : ∀ x ∈ l, x.length ≤ 1048576) : ∀ (d i : Nat) (o : List (List Int)), l.length - i = d → i ≤ l.length → l.length ≤ 1048576 → o.length = l.length → o.take i = l.take i →
    Ev (fun k => laws_toByteSS.l0 k l o (i : Int)) l := by
  intro d
  induction d with
  | zero =>
    intro i o hd hi hl ho ht
    refine Ev_succ ?_
    simp only [laws_toByteSS.l0]
    simp only [if_neg (show ¬ (i : Int) < (l.length : Int) by omega)]
    exact Ev_cast (Ev.now _) (by rw [List.take_of_length_le (by omega), List.take_of_length_le (by omega)] at ht; exact ht)
  | succ d ih =>
    intro i o hd hi hl ho ht
    refine Ev_succ ?_
    have hx := hs (l[i]'(by omega)) (List.getElem_mem _)
    simp only [laws_toByteSS.l0]
    simp only [if_pos (show (i : Int) < (l.length : Int) by omega), if_pos (show 0 ≤ (i : Int) by omega), if_pos (show (i : Int) < (o.length : Int) by omega)]
    rw [rdL1_lt (by omega), w64 (by omega) (by omega)]
    refine Ev.bind (toByteS_ev _ (by omega)) ?_
    refine ih (i + 1) _ (by omega) (by omega) hl (by simpa using ho) ?_
    apply List.ext_getElem?
    intro j
    rw [List.getElem?_take, List.getElem?_take]
    by_cases h1 : j < i
    · have := congrArg (fun x => x[j]?) ht
      simp only [List.getElem?_take, if_pos h1] at this
      rw [if_pos (by omega), if_pos (by omega), List.getElem?_set]
      simp only [Int.toNat_natCast]
      rw [if_neg (by omega), this]
    · by_cases h2 : j = i
      · subst h2
        rw [if_pos (by omega), if_pos (by omega), List.getElem?_set]
        simp only [Int.toNat_natCast, if_true]
        rw [if_pos (by omega)]
        simp [show j < l.length by omega]
      · rw [if_neg (by omega), if_neg (by omega)]
theorem toByteSS_ev (l : List (List Int)) (hl : l.length ≤ 1048576) (hs : ∀ x ∈ l, x.length ≤ 1048576) : Ev (fun k => laws_toByteSS.f k l) l := by
  unfold laws_toByteSS.f
  simp only [if_pos (show 0 ≤ (l.length : Int) by omega), Int.toNat_natCast, if_pos (show l.length ≤ 11728124029610 by omega)]
  exact toByteSS_l0 l hs l.length 0 _ (by omega) (by omega) (by omega) (by simp) (by simp)
theorem eqByteSS_same (l : List (List Int)) (hl : l.length ≤ 1048576) (hs : ∀ x ∈ l, x.length ≤ 1048576) : Ev (fun k => laws_eqByteSS.f k l l) true := by
  have loop : ∀ (d i : Nat), l.length - i = d → i ≤ l.length → Ev (fun k => laws_eqByteSS.l0 k l l (i : Int)) true := by
    intro d
    induction d with
    | zero =>
      intro i hd hi
      refine Ev_succ ?_
      simp only [laws_eqByteSS.l0]
      simp only [if_neg (show ¬ (i : Int) < (l.length : Int) by omega)]
      exact Ev.now _
    | succ d ih =>
      intro i hd hi
      refine Ev_succ ?_
      have hx := hs (l[i]'(by omega)) (List.getElem_mem _)
      simp only [laws_eqByteSS.l0]
      simp only [if_pos (show (i : Int) < (l.length : Int) by omega), if_pos (show 0 ≤ (i : Int) by omega)]
      rw [rdL1_lt (by omega), w64 (by omega) (by omega)]
      refine Ev.bind (eqByteS_same _ _ (by omega) rfl) ?_
      simp only [if_true]
      exact ih (i + 1) (by omega) (by omega)
  unfold laws_eqByteSS.f
  simp only [if_true]
  exact loop l.length 0 (by omega) (by omega)
theorem sum_le (l : List (List Int)) (hs : ∀ x ∈ l, x.length ≤ 1048576) : (l.map List.length).sum ≤ l.length * 1048576 := by
  induction l with
  | nil => simp
  | cons a t ih =>
    have h1 := hs a (List.mem_cons_self ..)
    have h2 := ih (fun x hx => hs x (List.mem_cons_of_mem _ hx))
    rw [List.map_cons, List.sum_cons, List.length_cons]
    omega
theorem markByteSS_eq (l : List (List Int)) (hl : l.length ≤ 1048576) (hs : ∀ x ∈ l, x.length ≤ 1048576) : laws_markByteSS.f l 1 = some (1 + (((l.map List.length).sum : Nat) : Int)) := by
  have := sum_le l hs
  unfold laws_markByteSS.f
  rw [if_pos ⟨by omega, by omega, by omega⟩]
theorem impl_LogOf_over (m : List (List Int)) (hm : m.length ≤ 60) : ∀ (d i : Nat) (out : List Int), m.length - i = d → i ≤ m.length → 20000 < out.length → out.length ≤ 20000 + i * 1000000 → Ev (fun k => impl_LogOf.l0 k out m (m.length : Int) (i : Int)) ([], false) := by
  intro d
  induction d with
  | zero =>
    intro i out hd hi h0 h1
    refine Ev_succ ?_
    simp only [impl_LogOf.l0]
    simp only [if_neg (show ¬ (i : Int) < (m.length : Int) by omega), if_pos (show (out.length : Int) > 20000 by omega)]
    exact Ev.now _
  | succ d ih =>
    intro i out hd hi h0 h1
    refine Ev_succ ?_
    simp only [impl_LogOf.l0]
    simp only [if_pos (show (i : Int) < (m.length : Int) by omega), if_pos (show 0 ≤ (i : Int) by omega)]
    rw [rdL1_lt (by omega), w64 (n := (i : Int) + 1) (by omega) (by omega)]
    by_cases hr : ((m[i]'(by omega)).length : Int) > 2000
    · simp only [if_pos hr]
      exact Ev.now _
    · simp only [if_neg hr]
      obtain ⟨r, _, hi2, hl⟩ := logPieces_both out.length (by omega) (m[i]'(by omega)) (by omega)
      refine Ev.bind hi2 ?_
      simp only [if_pos (show out.length + r.length < 140737488355328 by omega)]
      exact ih (i + 1) (out ++ r) (by omega) (by omega) (by rw [List.length_append]; omega) (by rw [List.length_append]; omega)
theorem logOf_both (m : List (List Int)) : ∃ r : List Int × Bool, Ev (fun k => spec_LogOf.f k m) r ∧ Ev (fun k => impl_LogOf.f k m) r ∧ r.1.length ≤ 20000 := by
  unfold spec_LogOf.f impl_LogOf.f
  by_cases hm : (m.length : Int) > 60
  · simp only [if_pos hm]
    exact ⟨([], false), Ev.now _, Ev.now _, by simp⟩
  simp only [if_neg hm]
  have loop : ∀ (d i : Nat) (out : List Int), m.length - i = d → i ≤ m.length → out.length ≤ 20000 → ∃ r : List Int × Bool, Ev (fun k => spec_LogOf.l0 k out m (m.length : Int) (i : Int)) r ∧ Ev (fun k => impl_LogOf.l0 k out m (m.length : Int) (i : Int)) r ∧ r.1.length ≤ 20000 := by
    intro d
    induction d with
    | zero =>
      intro i out hd hi h0
      refine ⟨(out, true), Ev_succ ?_, Ev_succ ?_, h0⟩
      · simp only [spec_LogOf.l0]
        simp only [if_neg (show ¬ (i : Int) < (m.length : Int) by omega)]
        exact Ev.now _
      · simp only [impl_LogOf.l0]
        simp only [if_neg (show ¬ (i : Int) < (m.length : Int) by omega), if_neg (show ¬ (out.length : Int) > 20000 by omega)]
        exact Ev.now _
    | succ d ih =>
      intro i out hd hi h0
      by_cases hr : ((m[i]'(by omega)).length : Int) > 2000
      · refine ⟨([], false), Ev_succ ?_, Ev_succ ?_, by simp⟩
        · simp only [spec_LogOf.l0]
          simp only [if_pos (show (i : Int) < (m.length : Int) by omega), if_pos (show 0 ≤ (i : Int) by omega)]
          rw [rdL1_lt (by omega)]
          simp only [if_pos hr]
          exact Ev.now _
        · simp only [impl_LogOf.l0]
          simp only [if_pos (show (i : Int) < (m.length : Int) by omega), if_pos (show 0 ≤ (i : Int) by omega)]
          rw [rdL1_lt (by omega)]
          simp only [if_pos hr]
          exact Ev.now _
      · obtain ⟨q, hs2, hi2, hl⟩ := logPieces_both out.length (by omega) (m[i]'(by omega)) (by omega)
        by_cases ho : ((out ++ q).length : Int) > 20000
        · refine ⟨([], false), Ev_succ ?_, Ev_succ ?_, by simp⟩
          · simp only [spec_LogOf.l0]
            simp only [if_pos (show (i : Int) < (m.length : Int) by omega), if_pos (show 0 ≤ (i : Int) by omega)]
            rw [rdL1_lt (by omega), w64 (n := (i : Int) + 1) (by omega) (by omega)]
            simp only [if_neg hr]
            refine Ev.bind hs2 ?_
            simp only [if_pos (show out.length + q.length < 140737488355328 by omega)]
            refine Ev.bind (Ev_some rfl) ?_
            simp only [if_pos ho]
            exact Ev.now _
          · simp only [impl_LogOf.l0]
            simp only [if_pos (show (i : Int) < (m.length : Int) by omega), if_pos (show 0 ≤ (i : Int) by omega)]
            rw [rdL1_lt (by omega), w64 (n := (i : Int) + 1) (by omega) (by omega)]
            simp only [if_neg hr]
            refine Ev.bind hi2 ?_
            simp only [if_pos (show out.length + q.length < 140737488355328 by omega)]
            exact impl_LogOf_over m (by omega) d (i + 1) (out ++ q) (by omega) (by omega) (by omega) (by rw [List.length_append]; omega)
        · obtain ⟨r, ha, hb, hc⟩ := ih (i + 1) (out ++ q) (by omega) (by omega) (by omega)
          rw [show (((i + 1 : Nat)) : Int) = (i : Int) + 1 by simp] at ha hb
          refine ⟨r, Ev_succ ?_, Ev_succ ?_, hc⟩
          · simp only [spec_LogOf.l0]
            simp only [if_pos (show (i : Int) < (m.length : Int) by omega), if_pos (show 0 ≤ (i : Int) by omega)]
            rw [rdL1_lt (by omega), w64 (n := (i : Int) + 1) (by omega) (by omega)]
            simp only [if_neg hr]
            refine Ev.bind hs2 ?_
            simp only [if_pos (show out.length + q.length < 140737488355328 by omega)]
            refine Ev.bind (Ev_some rfl) ?_
            simp only [if_neg ho]
            exact ha
          · simp only [impl_LogOf.l0]
            simp only [if_pos (show (i : Int) < (m.length : Int) by omega), if_pos (show 0 ≤ (i : Int) by omega)]
            rw [rdL1_lt (by omega), w64 (n := (i : Int) + 1) (by omega) (by omega)]
            simp only [if_neg hr]
            refine Ev.bind hi2 ?_
            simp only [if_pos (show out.length + q.length < 140737488355328 by omega)]
            exact hb
  exact loop m.length 0 [] (by omega) (by omega) (by simp)
theorem FnExactLogOf : laws_FnExactLogOf.Pure := by
  intro l h0
  refine Ev.rounds ?_
  unfold laws_FnExactLogOf.f
  obtain ⟨z, hz, hz2⟩ := szByteSS_ev l (by have := h0.1; unfold maxLen at this; omega) (fun x hx => by have := (h0.2 x hx).1; unfold maxLen at this; omega)
  refine Ev.bind hz ?_
  by_cases hh : z < 0
  · simp only [if_pos hh]; exact Ev.now _
  obtain ⟨hl, hs⟩ := hz2.resolve_left hh
  obtain ⟨r, e1, e2, hr⟩ := logOf_both l
  have hsum := sum_le l hs
  simp only [if_neg hh]
  refine Ev.bind (toByteSS_ev l hl hs) ?_
  refine Ev.bind e1 ?_
  refine Ev.bind (toByteSS_ev l hl hs) ?_
  refine Ev.bind e2 ?_
  refine Ev.bind (eqByteS_same _ _ (by omega) rfl) ?_
  simp only [if_true, bne_self_eq_false]
  refine Ev_succ ?_
  simp only [laws_FnExactLogOf.j0, Bool.false_eq_true, if_false]
  refine Ev.bind (toByteSS_ev l hl hs) ?_
  refine Ev.bind (eqByteSS_same l hl hs) ?_
  simp only [if_true]
  refine Ev.bind (Ev_some (markByteSS_eq l hl hs)) ?_
  simp only [if_neg (show ¬ (1 + (((l.map List.length).sum : Nat) : Int) < 0) by omega)]
  refine Ev.bind (eqByteS_same _ _ (by omega) rfl) ?_
  simp only [if_true, bne_self_eq_false]
  refine Ev_succ ?_
  simp only [laws_FnExactLogOf.j1, Bool.false_eq_true, if_false]
  refine Ev.bind (markByteS_ev _ 1 (by omega) (by omega) (by omega)) ?_
  refine Ev.bind (heldByteS_ev 1 _ (by omega) (by omega) (by omega)) ?_
  simp only [if_neg (show ¬ (1 + (r.1.length : Int) < 0) by omega), if_true]
  refine Ev.bind (toByteSS_ev l hl hs) ?_
  refine Ev.bind e2 ?_
  refine Ev.bind (eqByteS_same _ _ (by omega) rfl) ?_
  simp only [if_true, bne_self_eq_false]
  refine Ev_succ ?_
  simp only [laws_FnExactLogOf.j2, Bool.false_eq_true, if_false]
  refine Ev.bind (heldByteS_ev 1 _ (by omega) (by omega) (by omega)) ?_
  simp only [if_neg (show ¬ (1 + (r.1.length : Int) < 0) by omega), if_true]
  exact Ev.now _
end Go.Proofs.Ytolpkckaijeahaa.Pure
