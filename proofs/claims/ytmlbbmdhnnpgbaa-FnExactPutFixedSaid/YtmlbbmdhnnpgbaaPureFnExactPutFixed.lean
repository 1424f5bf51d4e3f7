/- The law FnExactPutFixed answers true, for all numbers and widths. -/
import Derived.Test.YtmlbbmdhnnpgbaaPFnExactPutFixedx2
set_option linter.unusedVariables false
set_option linter.unusedSimpArgs false
namespace Go.Proofs.Ytmlbbmdhnnpgbaa.Pure
open Go.RowKit Go.Proofs.Ytmlbbmdhnnpgbaa.PFnExactPutFixed Go.Proofs.YtmlbbmdhnnpgbaaW Go.Proofs.YtmlbbmdhnnpgbaaW.PrintWords Go.Proofs.YtmlbbmdhnnpgbaaW.PrintLast Go.Proofs.YtmlbbmdhnnpgbaaW.PrintMore
/-! ### base: rounds, numbers -/
theorem Ev_succ {α : Type} {g : Nat → Option α} {r : α} (h : Ev (fun k => g (k + 1)) r) : Ev g r := Ev.step (fun _ => rfl) h
theorem Ev_some {α : Type} {o : Option α} {r : α} (h : o = some r) : Ev (fun _ => o) r := ⟨0, fun _ _ => h⟩
theorem Ev_cast {α : Type} {g : Nat → Option α} {r q : α} (h : Ev g r) (e : r = q) : Ev g q := e ▸ h
theorem w64 {n : Int} (h : -9223372036854775808 ≤ n) (h' : n ≤ 9223372036854775807) : wrap64 n = n := by unfold wrap64; omega
theorem wf_i64 {n : Int} (h : (Lit.int .i64 n).wf = true) : -9223372036854775808 ≤ n ∧ n ≤ 9223372036854775807 := by
  simp only [Lit.wf, IntKind.min, IntKind.max, IntKind.signed, IntKind.bits, Bool.and_eq_true, decide_eq_true_eq, if_true] at h
  omega
theorem wf_u64 {n : Int} (h : (Lit.int .u64 n).wf = true) : 0 ≤ n ∧ n ≤ 18446744073709551615 := by
  simp only [Lit.wf, IntKind.min, IntKind.max, IntKind.signed, IntKind.bits, Bool.and_eq_true, decide_eq_true_eq, if_true] at h
  simp at h
  omega
theorem wf_u8 {n : Int} (h : (Lit.int .u8 n).wf = true) : 0 ≤ n ∧ n ≤ 255 := by
  simp only [Lit.wf, IntKind.min, IntKind.max, IntKind.signed, IntKind.bits, Bool.and_eq_true, decide_eq_true_eq, if_true] at h
  simp at h
  omega
theorem wrap_u64 (n : Int) : IntKind.u64.wrap n = n % 18446744073709551616 := by simp [IntKind.wrap, IntKind.bits, IntKind.signed]
theorem wrap_u32 (n : Int) : IntKind.u32.wrap n = n % 4294967296 := by simp [IntKind.wrap, IntKind.bits, IntKind.signed]
/-- A list of bytes. -/
def Bytes (l : List Int) : Prop := ∀ x ∈ l, 0 ≤ x ∧ x ≤ 255
theorem Bytes.wf {l : List Int} (h : ∀ x ∈ l, (Lit.int .u8 x).wf = true) : Bytes l := fun x hx => wf_u8 (h x hx)
theorem Bytes.nil : Bytes [] := fun x hx => by cases hx
theorem Bytes.app {a b : List Int} (h : Bytes a) (k : Bytes b) : Bytes (a ++ b) := fun x hx => by
  rcases List.mem_append.1 hx with h' | h'
  · exact h x h'
  · exact k x h'
theorem Bytes.one {x : Int} (h : 0 ≤ x) (h' : x ≤ 255) : Bytes [x] := fun y hy => (List.mem_singleton.1 hy) ▸ ⟨h, h'⟩
theorem Bytes.sub {a b : List Int} (h : Bytes a) (k : ∀ x ∈ b, x ∈ a) : Bytes b := fun x hx => h x (k x hx)
theorem Bytes.take {a : List Int} (h : Bytes a) (n : Nat) : Bytes (a.take n) := h.sub fun _ hx => List.mem_of_mem_take hx
theorem Bytes.drop {a : List Int} (h : Bytes a) (n : Nat) : Bytes (a.drop n) := h.sub fun _ hx => List.mem_of_mem_drop hx
theorem rd_lt {l : List Int} {i : Nat} (h : i < l.length) : rd l (i : Int) = l[i] := by simp [rd, h]
theorem Bytes.rd {l : List Int} (h : Bytes l) (i : Int) : 0 ≤ rd l i ∧ rd l i ≤ 255 := by
  unfold PrintWords.rd
  by_cases hi : i.toNat < l.length
  · rw [List.getD_eq_getElem?_getD, List.getElem?_eq_getElem hi]; exact h _ (List.getElem_mem hi)
  · rw [List.getD_eq_getElem?_getD, List.getElem?_eq_none (by omega)]; simp
theorem drop_cons {α : Type} {l : List α} {i : Nat} (h : i < l.length) : l.drop i = l[i] :: l.drop (i + 1) := List.drop_eq_getElem_cons h
/-! ### the laws' own words on bytes -/
theorem eqByteS_l0 (a b : List Int) (hl : a.length = b.length) (hb : a.length ≤ 4611686018427387904) :
    ∀ (d i : Nat), a.length - i = d → i ≤ a.length → Ev (fun k => laws_eqByteS.l0 k a b (i : Int)) (decide (a.drop i = b.drop i)) := by
  intro d
  induction d with
  | zero =>
    intro i hd hi
    refine Ev_succ ?_
    simp only [laws_eqByteS.l0]
    simp only [if_neg (show ¬ (i : Int) < (a.length : Int) by omega)]
    exact Ev_cast (Ev.now _) (by rw [List.drop_eq_nil_of_le (by omega), List.drop_eq_nil_of_le (by omega)]; simp)
  | succ d ih =>
    intro i hd hi
    refine Ev_succ ?_
    simp only [laws_eqByteS.l0]
    simp only [if_pos (show (i : Int) < (a.length : Int) by omega), if_pos (show 0 ≤ (i : Int) by omega), if_pos (show (i : Int) < (b.length : Int) by omega)]
    rw [rd_lt (by omega), rd_lt (by omega), w64 (by omega) (by omega), drop_cons (l := a) (by omega), drop_cons (l := b) (i := i) (by omega)]
    by_cases e : a[i]'(by omega) = b[i]'(by omega)
    · simp only [if_pos e]
      exact Ev_cast (ih (i + 1) (by omega) (by omega)) (decide_eq_decide.2 (by rw [List.cons.injEq]; exact ⟨fun h => ⟨e, h⟩, fun h => h.2⟩))
    · simp only [if_neg e]
      exact Ev_cast (Ev.now _) (Eq.symm (decide_eq_false (by rw [List.cons.injEq]; exact fun h => e h.1)))
theorem eqByteS_ev (a b : List Int) (ha : a.length ≤ 4611686018427387904) : Ev (fun k => laws_eqByteS.f k a b) (decide (a = b)) := by
  unfold laws_eqByteS.f
  by_cases h : a.length = b.length
  · simp only [if_pos (show (a.length : Int) = (b.length : Int) by omega)]
    exact eqByteS_l0 a b h ha a.length 0 (by omega) (by omega)
  · simp only [if_neg (show ¬ (a.length : Int) = (b.length : Int) by omega)]
    exact Ev_cast (Ev.now _) (by simp; intro e; exact h (by rw [e]))
theorem eqByteS_same (a b : List Int) (ha : a.length ≤ 4611686018427387904) (e : a = b) : Ev (fun k => laws_eqByteS.f k a b) true := Ev_cast (eqByteS_ev a b ha) (by simp [e])
/-- What a list reads once it was marked from m on. -/
def markedFrom (m : Int) : Nat → List Int
  | 0 => []
  | n + 1 => (m % 256) :: markedFrom (m + 1) n
theorem markedFrom_length (n : Nat) : ∀ m, (markedFrom m n).length = n := by
  induction n with
  | zero => intro m; rfl
  | succ n ih => intro m; simp [markedFrom, ih]
theorem markByteS_l0 (m : Int) : ∀ (d i : Nat) (l : List Int), l.length - i = d → i ≤ l.length → l.length ≤ 1152921504606846976 → 0 ≤ m → m ≤ 1152921504606846976 + i →
    Ev (fun k => laws_markByteS.l0 k l m (i : Int)) (m + d, l.take i ++ markedFrom m d) := by
  intro d
  induction d generalizing m with
  | zero =>
    intro i l hd hi hl h0 hm
    refine Ev_succ ?_
    simp only [laws_markByteS.l0]
    simp only [if_neg (show ¬ (i : Int) < (l.length : Int) by omega)]
    exact Ev_cast (Ev.now _) (by rw [List.take_of_length_le (by omega)]; simp [markedFrom])
  | succ d ih =>
    intro i l hd hi hl h0 hm
    refine Ev_succ ?_
    simp only [laws_markByteS.l0]
    simp only [if_pos (show (i : Int) < (l.length : Int) by omega), if_pos (show 0 ≤ (i : Int) by omega)]
    rw [w64 (n := m + 1) (by omega) (by omega), w64 (by omega) (by omega)]
    refine Ev_cast (ih (m + 1) (i + 1) (l.set i (m % 256)) (by simp; omega) (by simp; omega) (by simpa using hl) (by omega) (by omega)) ?_
    refine Prod.ext (by simp; omega) ?_
    show (l.set i (m % 256)).take (i + 1) ++ markedFrom (m + 1) d = l.take i ++ markedFrom m (d + 1)
    have : (l.set i (m % 256)).take (i + 1) = l.take i ++ [m % 256] := by
      apply List.ext_getElem?
      intro j
      rw [List.getElem?_take, List.getElem?_append, List.getElem?_set]
      have : (l.take i).length = i := by simp; omega
      rw [this]
      by_cases h1 : j < i
      · rw [if_pos (by omega), if_neg (by omega), if_pos h1, List.getElem?_take, if_pos h1]
      · by_cases h2 : j = i
        · subst h2; simp; omega
        · rw [if_neg (by omega), if_neg h1]; simp; omega
    rw [this]; simp [markedFrom]
theorem markByteS_ev (l : List Int) (m : Int) (hl : l.length ≤ 1152921504606846976) (h0 : 0 ≤ m) (hm : m ≤ 1152921504606846976) : Ev (fun k => laws_markByteS.f k l m) (m + l.length, markedFrom m l.length) := by
  unfold laws_markByteS.f
  exact Ev_cast (markByteS_l0 m l.length 0 l (by omega) (by omega) hl h0 (by omega)) (by simp)
theorem heldByteS_l0 : ∀ (n : Nat) (m : Int) (i : Nat) (p : List Int), p.length = i → i + n ≤ 1152921504606846976 → 0 ≤ m → m ≤ 1152921504606846976 + i →
    Ev (fun k => laws_heldByteS.l0 k (p ++ markedFrom m n) m (i : Int)) (m + n) := by
  intro n
  induction n with
  | zero =>
    intro m i p hp hl h0 hm
    refine Ev_succ ?_
    simp only [laws_heldByteS.l0]
    simp only [markedFrom, List.append_nil, if_neg (show ¬ (i : Int) < (p.length : Int) by omega)]
    exact Ev_cast (Ev.now _) (by simp)
  | succ n ih =>
    intro m i p hp hl h0 hm
    refine Ev_succ ?_
    simp only [laws_heldByteS.l0]
    have hlen : (p ++ markedFrom m (n + 1)).length = i + n + 1 := by rw [List.length_append, markedFrom_length]; omega
    have hr : rd (p ++ markedFrom m (n + 1)) (i : Int) = m % 256 := by
      rw [rd_lt (by omega)]; simp [markedFrom, hp]
    simp only [if_pos (show (i : Int) < ((p ++ markedFrom m (n + 1)).length : Int) by omega), if_pos (show 0 ≤ (i : Int) by omega), hr, if_true]
    rw [w64 (n := m + 1) (by omega) (by omega), w64 (by omega) (by omega)]
    have e : p ++ markedFrom m (n + 1) = (p ++ [m % 256]) ++ markedFrom (m + 1) n := by simp [markedFrom]
    rw [e]
    exact Ev_cast (ih (m + 1) (i + 1) (p ++ [m % 256]) (by simp [hp]) (by omega) (by omega) (by omega)) (by omega)
theorem heldByteS_ev (m : Int) (n : Nat) (hl : n ≤ 1152921504606846976) (h0 : 0 ≤ m) (hm : m ≤ 1152921504606846976) : Ev (fun k => laws_heldByteS.f k (markedFrom m n) m) (m + n) := by
  unfold laws_heldByteS.f
  exact heldByteS_l0 n m 0 [] rfl (by omega) h0 (by omega)
theorem within_eq (a b c : Int) : impl_within.f a b c = some (decide (b ≤ a ∧ a ≤ c)) := by
  unfold impl_within.f
  by_cases h : a ≥ b
  · rw [if_pos h]; simp; intro; omega
  · rw [if_neg h]; simp; intro; omega
theorem l1In_eq (a b c : Int) : spec_l1In.f a b c = some (decide (b ≤ a ∧ a ≤ c)) := by
  unfold spec_l1In.f
  by_cases h : a ≥ b
  · rw [if_pos h]; simp; intro; omega
  · rw [if_neg h]; simp; intro; omega
/-! ### PutFixed, ReadFixed -/
def fixedB : Nat → Nat → List Int
  | _, 0 => []
  | n, m + 1 => fixedB (n / 256) m ++ [((n % 256 : Nat) : Int)]
theorem fixedB_length : ∀ (m n : Nat), (fixedB n m).length = m := by
  intro m
  induction m with
  | zero => intro n; rfl
  | succ m ih => intro n; simp [fixedB, ih]
theorem fixedB_bytes : ∀ (m n : Nat), Bytes (fixedB n m) := by
  intro m
  induction m with
  | zero => intro n; exact Bytes.nil
  | succ m ih => intro n; exact (ih _).app (Bytes.one (by omega) (by omega))
theorem two_pow_8 (j : Nat) : (2 : Int) ^ (8 * j) = 256 ^ j := by rw [Int.pow_mul]; rfl
theorem shr8 (n j : Nat) (hj : j ≤ 8) : shr .i64 (n : Int) (8 * (j : Int)) = ((n / 256 ^ j : Nat) : Int) := by
  unfold shr
  rw [show (min (8 * (j : Int)).toNat IntKind.i64.bits) = 8 * j by simp [IntKind.bits]; omega, two_pow_8, Int.natCast_ediv, Int.natCast_pow]
  rfl
theorem spec_l1Fixed_l0 (n : Nat) : ∀ (j m : Nat), m + j ≤ 8 → Ev (fun k => spec_l1Fixed.l0 k (n : Int) (fixedB (n / 256 ^ j) m) ((j : Int) - 1)) (fixedB n (m + j)) := by
  intro j
  induction j with
  | zero =>
    intro m h
    refine Ev_succ ?_
    simp only [spec_l1Fixed.l0, if_neg (show ¬ ((0 : Nat) : Int) - 1 ≥ 0 by omega)]
    exact Ev_cast (Ev.now _) (by simp)
  | succ j ih =>
    intro m h
    refine Ev_succ ?_
    rw [show ((j + 1 : Nat) : Int) - 1 = (j : Int) by omega]
    simp only [spec_l1Fixed.l0]
    rw [w64 (n := 8 * (j : Int)) (by omega) (by omega), wrap_u64, show (8 * (j : Int)) % 18446744073709551616 = 8 * (j : Int) by omega, w64 (by omega) (by omega), shr8 n j (by omega)]
    have hl := fixedB_length m (n / 256 ^ (j + 1))
    simp only [if_pos (show (j : Int) ≥ 0 by omega), if_pos (show 0 ≤ 8 * (j : Int) by omega), if_pos (show (fixedB (n / 256 ^ (j + 1)) m).length < 140737488355328 by omega)]
    have e : fixedB (n / 256 ^ (j + 1)) m ++ [((n / 256 ^ j : Nat) : Int) % 256] = fixedB (n / 256 ^ j) (m + 1) := by
      simp only [fixedB]
      rw [Nat.div_div_eq_div_mul, ← Nat.pow_succ]
      congr 1
    rw [e]
    exact Ev_cast (ih (m + 1) (by omega)) (by congr 1; omega)
theorem fixedB_zero_div (n m : Nat) (h : m = 8 → n < 18446744073709551616) : True := trivial
theorem spec_l1Fixed_ev (n m : Nat) (h : m ≤ 8) : Ev (fun k => spec_l1Fixed.f k (n : Int) (m : Int)) (fixedB n m) := by
  unfold spec_l1Fixed.f
  rw [w64 (by omega) (by omega)]
  exact Ev_cast (spec_l1Fixed_l0 n m 0 (by omega)) (by simp)
/-- What PutFixed tells. -/
def putFixed (n m : Int) : List Int × Bool := if 0 ≤ n ∧ 1 ≤ m ∧ m ≤ 8 ∧ (m < 8 → n.toNat / 256 ^ m.toNat = 0) then (fixedB n.toNat m.toNat, true) else ([], false)
theorem spec_PutFixed_ev (n m : Int) (hn : n ≤ 9223372036854775807) : Ev (fun k => spec_PutFixed.f k n m) (putFixed n m) := by
  unfold spec_PutFixed.f putFixed
  by_cases h0 : n < 0
  · simp only [if_pos h0]; rw [if_neg (by omega)]; exact Ev.now _
  simp only [if_neg h0]
  refine Ev.bind (Ev_some (l1In_eq _ _ _)) ?_
  by_cases h : 1 ≤ m ∧ m ≤ 8
  · rw [decide_eq_true h]
    simp only [if_true]
    obtain ⟨N, rfl⟩ := Int.eq_ofNat_of_zero_le (show 0 ≤ n by omega)
    obtain ⟨M, rfl⟩ := Int.eq_ofNat_of_zero_le (show 0 ≤ m by omega)
    simp only [Int.toNat_natCast]
    by_cases h8 : (M : Int) < 8
    · simp only [if_pos h8]
      rw [w64 (n := 8 * (M : Int)) (by omega) (by omega), wrap_u64, show (8 * (M : Int)) % 18446744073709551616 = 8 * (M : Int) by omega, shr8 N M (by omega)]
      simp only [if_pos (show 0 ≤ 8 * (M : Int) by omega)]
      by_cases hz : N / 256 ^ M = 0
      · simp only [if_pos (show ((N / 256 ^ M : Nat) : Int) = 0 by omega)]
        rw [if_pos ⟨by omega, h.1, h.2, fun _ => hz⟩]
        exact Ev.bind (spec_l1Fixed_ev N M (by omega)) (Ev.now _)
      · simp only [if_neg (show ¬ ((N / 256 ^ M : Nat) : Int) = 0 by omega)]
        rw [if_neg (fun hh => hz (hh.2.2.2 h8))]
        exact Ev.now _
    · simp only [if_neg h8]
      rw [if_pos ⟨by omega, h.1, h.2, fun h' => absurd h' h8⟩]
      exact Ev.bind (spec_l1Fixed_ev N M (by omega)) (Ev.now _)
  · rw [decide_eq_false h]
    simp only [Bool.false_eq_true, if_false]
    rw [if_neg (by omega)]
    exact Ev.now _
theorem impl_PutFixed_l0 : ∀ (j n : Nat) (tl : List Int), j + tl.length ≤ 8 → Ev (fun k => impl_PutFixed.l0 k (n : Int) (List.replicate j 0 ++ tl) ((j : Int) - 1)) (fixedB n j ++ tl, true) := by
  intro j
  induction j with
  | zero =>
    intro n tl h
    refine Ev_succ ?_
    simp only [impl_PutFixed.l0, if_neg (show ¬ ((0 : Nat) : Int) - 1 ≥ 0 by omega)]
    exact Ev_cast (Ev.now _) (by simp [fixedB])
  | succ j ih =>
    intro n tl h
    refine Ev_succ ?_
    rw [show ((j + 1 : Nat) : Int) - 1 = (j : Int) by omega]
    simp only [impl_PutFixed.l0]
    have hl : (List.replicate (j + 1) (0 : Int) ++ tl).length = j + 1 + tl.length := by simp
    simp only [if_pos (show (j : Int) ≥ 0 by omega), if_pos (show 0 ≤ (j : Int) by omega), if_pos (show (j : Int) < ((List.replicate (j + 1) (0 : Int) ++ tl).length : Int) by omega)]
    rw [w64 (by omega) (by omega)]
    have e : (List.replicate (j + 1) (0 : Int) ++ tl).set ((j : Int)).toNat ((n : Int) % 256) = List.replicate j 0 ++ ((n : Int) % 256 :: tl) := by
      rw [Int.toNat_natCast, List.replicate_succ', List.append_assoc, List.set_append_right _ _ (by simp)]
      simp
    rw [e, show (n : Int) / 256 = ((n / 256 : Nat) : Int) by omega]
    exact Ev_cast (ih (n / 256) ((n : Int) % 256 :: tl) (by simp; omega)) (by simp [fixedB])
theorem impl_PutFixed_ev (n m : Int) (hn : n ≤ 9223372036854775807) : Ev (fun k => impl_PutFixed.f k n m) (putFixed n m) := by
  have bad : Ev (fun k => impl_PutFixed.j0 k n m true) ([], false) := by
    refine Ev_succ ?_
    simp only [impl_PutFixed.j0, if_true]
    exact Ev.now _
  unfold impl_PutFixed.f putFixed
  by_cases h0 : n < 0
  · simp only [if_pos h0]; rw [if_neg (by omega)]; exact bad
  simp only [if_neg h0]
  refine Ev.bind (Ev_some (within_eq _ _ _)) ?_
  by_cases h : 1 ≤ m ∧ m ≤ 8
  · rw [decide_eq_true h]
    simp only [if_true]
    have good : Ev (fun k => impl_PutFixed.j0 k n m false) (fixedB n.toNat m.toNat, true) := by
      refine Ev_succ ?_
      simp only [impl_PutFixed.j0, Bool.false_eq_true, if_false, if_pos (show 0 ≤ m by omega), if_pos (show m.toNat ≤ 281474976710656 by omega)]
      rw [w64 (by omega) (by omega)]
      have := impl_PutFixed_l0 m.toNat n.toNat [] (by simp; omega)
      simp only [List.append_nil] at this
      rwa [show ((n.toNat : Nat) : Int) = n by omega, show ((m.toNat : Nat) : Int) = m by omega] at this
    obtain ⟨N, rfl⟩ := Int.eq_ofNat_of_zero_le (show 0 ≤ n by omega)
    obtain ⟨M, rfl⟩ := Int.eq_ofNat_of_zero_le (show 0 ≤ m by omega)
    simp only [Int.toNat_natCast] at good ⊢
    by_cases h8 : (M : Int) < 8
    · simp only [if_pos h8]
      rw [w64 (n := 8 * (M : Int)) (by omega) (by omega), shr8 N M (by omega)]
      simp only [if_pos (show 0 ≤ 8 * (M : Int) by omega)]
      by_cases hz : N / 256 ^ M = 0
      · rw [if_pos ⟨by omega, h.1, h.2, fun _ => hz⟩, show (((N / 256 ^ M : Nat) : Int) != 0) = false by rw [hz]; rfl]
        exact good
      · rw [if_neg (fun hh => hz (hh.2.2.2 h8)), show (((N / 256 ^ M : Nat) : Int) != 0) = true by simp only [bne_iff_ne]; omega]
        exact bad
    · simp only [if_neg h8]
      rw [if_pos ⟨by omega, h.1, h.2, fun h' => absurd h' h8⟩]
      exact good
  · rw [decide_eq_false h]
    simp only [Bool.false_eq_true, if_false]
    rw [if_neg (by omega)]
    exact bad
theorem FnExactPutFixed : laws_FnExactPutFixed.Pure := by
  intro n m h1 h2
  have hn := (wf_i64 h1).2
  refine Ev.rounds ?_
  unfold laws_FnExactPutFixed.f
  have hl : (putFixed n m).1.length ≤ 8 := by
    unfold putFixed
    split
    · rw [fixedB_length]; omega
    · simp
  refine Ev.bind (spec_PutFixed_ev n m hn) ?_
  refine Ev.bind (impl_PutFixed_ev n m hn) ?_
  refine Ev.bind (eqByteS_same _ _ (by omega) rfl) ?_
  simp only [if_true, bne_self_eq_false]
  refine Ev_succ ?_
  simp only [laws_FnExactPutFixed.j0, Bool.false_eq_true, if_false]
  refine Ev.bind (markByteS_ev _ 1 (by omega) (by omega) (by omega)) ?_
  refine Ev.bind (heldByteS_ev 1 _ (by omega) (by omega) (by omega)) ?_
  simp only [if_neg (show ¬ (1 + ((putFixed n m).1.length : Int) < 0) by omega), if_true]
  refine Ev.bind (impl_PutFixed_ev n m hn) ?_
  refine Ev.bind (eqByteS_same _ _ (by omega) rfl) ?_
  simp only [if_true, bne_self_eq_false]
  refine Ev_succ ?_
  simp only [laws_FnExactPutFixed.j1, Bool.false_eq_true, if_false]
  refine Ev.bind (heldByteS_ev 1 _ (by omega) (by omega) (by omega)) ?_
  simp only [if_neg (show ¬ (1 + ((putFixed n m).1.length : Int) < 0) by omega), if_true]
  exact Ev.now _
end Go.Proofs.Ytmlbbmdhnnpgbaa.Pure
