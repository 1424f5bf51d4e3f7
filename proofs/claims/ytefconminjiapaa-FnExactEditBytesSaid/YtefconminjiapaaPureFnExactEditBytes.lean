/- The law FnExactEditBytes answers true, for all edits. -/
import Derived.Test.YtefconminjiapaaPFnExactEditBytesx8
import Derived.Test.YtefconminjiapaaPFnExactEditBytesx8
set_option linter.unusedVariables false
set_option linter.unusedSimpArgs false
namespace Go.Proofs.Ytefconminjiapaa.Pure
open Go.RowKit Go.Proofs.Ytefconminjiapaa.PFnExactEditBytes Go.Proofs.YtefconminjiapaaW Go.Proofs.YtefconminjiapaaW.PrintWords Go.Proofs.YtefconminjiapaaW.PrintLast Go.Proofs.YtefconminjiapaaW.PrintMore
/-! ### base: rounds, numbers -/
theorem Ev_succ {α : Type} {g : Nat → Option α} {r : α} (h : Ev (fun k => g (k + 1)) r) : Ev g r := Ev.step (fun _ => rfl) h
theorem Ev_some {α : Type} {o : Option α} {r : α} (h : o = some r) : Ev (fun _ => o) r := ⟨0, fun _ _ => h⟩
theorem Ev_cast {α : Type} {g : Nat → Option α} {r q : α} (h : Ev g r) (e : r = q) : Ev g q := e ▸ h
theorem w64 {n : Int} (h : -9223372036854775808 ≤ n) (h' : n ≤ 9223372036854775807) : wrap64 n = n := by unfold wrap64; omega
theorem wf_i64 {n : Int} (h : (Lit.int .i64 n).wf = true) : -9223372036854775808 ≤ n ∧ n ≤ 9223372036854775807 := by
  simp only [Lit.wf, IntKind.min, IntKind.max, IntKind.signed, IntKind.bits, Bool.and_eq_true, decide_eq_true_eq, if_true] at h
  omega
theorem wf_u64 {n : Int} (h : (Lit.int .u64 n).wf = true) : 0 ≤ n ∧ n ≤ 18446744073709551615 := by
  simp only [Lit.wf, IntKind.min, IntKind.max, IntKind.signed, IntKind.bits, Bool.and_eq_true, decide_eq_true_eq, if_true] at h
  simp at h
  omega
theorem wf_u8 {n : Int} (h : (Lit.int .u8 n).wf = true) : 0 ≤ n ∧ n ≤ 255 := by
  simp only [Lit.wf, IntKind.min, IntKind.max, IntKind.signed, IntKind.bits, Bool.and_eq_true, decide_eq_true_eq, if_true] at h
  simp at h
  omega
theorem wrap_u64 (n : Int) : IntKind.u64.wrap n = n % 18446744073709551616 := by simp [IntKind.wrap, IntKind.bits, IntKind.signed]
theorem wrap_u32 (n : Int) : IntKind.u32.wrap n = n % 4294967296 := by simp [IntKind.wrap, IntKind.bits, IntKind.signed]
/-- A list of bytes. -/
def Bytes (l : List Int) : Prop := ∀ x ∈ l, 0 ≤ x ∧ x ≤ 255
theorem Bytes.wf {l : List Int} (h : ∀ x ∈ l, (Lit.int .u8 x).wf = true) : Bytes l := fun x hx => wf_u8 (h x hx)
theorem Bytes.nil : Bytes [] := fun x hx => by cases hx
theorem Bytes.app {a b : List Int} (h : Bytes a) (k : Bytes b) : Bytes (a ++ b) := fun x hx => by
  rcases List.mem_append.1 hx with h' | h'
  · exact h x h'
  · exact k x h'
theorem Bytes.one {x : Int} (h : 0 ≤ x) (h' : x ≤ 255) : Bytes [x] := fun y hy => (List.mem_singleton.1 hy) ▸ ⟨h, h'⟩
theorem Bytes.sub {a b : List Int} (h : Bytes a) (k : ∀ x ∈ b, x ∈ a) : Bytes b := fun x hx => h x (k x hx)
theorem Bytes.take {a : List Int} (h : Bytes a) (n : Nat) : Bytes (a.take n) := h.sub fun _ hx => List.mem_of_mem_take hx
theorem Bytes.drop {a : List Int} (h : Bytes a) (n : Nat) : Bytes (a.drop n) := h.sub fun _ hx => List.mem_of_mem_drop hx
theorem rd_lt {l : List Int} {i : Nat} (h : i < l.length) : rd l (i : Int) = l[i] := by simp [rd, h]
theorem Bytes.rd {l : List Int} (h : Bytes l) (i : Int) : 0 ≤ rd l i ∧ rd l i ≤ 255 := by
  unfold PrintWords.rd
  by_cases hi : i.toNat < l.length
  · rw [List.getD_eq_getElem?_getD, List.getElem?_eq_getElem hi]; exact h _ (List.getElem_mem hi)
  · rw [List.getD_eq_getElem?_getD, List.getElem?_eq_none (by omega)]; simp
theorem drop_cons {α : Type} {l : List α} {i : Nat} (h : i < l.length) : l.drop i = l[i] :: l.drop (i + 1) := List.drop_eq_getElem_cons h
theorem within_eq (a b c : Int) : impl_within.f a b c = some (decide (b ≤ a ∧ a ≤ c)) := by
  unfold impl_within.f
  by_cases h : a ≥ b
  · rw [if_pos h]; simp; intro; omega
  · rw [if_neg h]; simp; intro; omega
theorem l1In_eq (a b c : Int) : spec_l1In.f a b c = some (decide (b ≤ a ∧ a ≤ c)) := by
  unfold spec_l1In.f
  by_cases h : a ≥ b
  · rw [if_pos h]; simp; intro; omega
  · rw [if_neg h]; simp; intro; omega
/-! ### the laws' own words on bytes -/
theorem eqByteS_l0 (a b : List Int) (hl : a.length = b.length) (hb : a.length ≤ 4611686018427387904) :
    ∀ (d i : Nat), a.length - i = d → i ≤ a.length → Ev (fun k => laws_eqByteS.l0 k a b (i : Int)) (decide (a.drop i = b.drop i)) := by
  intro d
  induction d with
  | zero =>
    intro i hd hi
    refine Ev_succ ?_
    simp only [laws_eqByteS.l0]
    simp only [if_neg (show ¬ (i : Int) < (a.length : Int) by omega)]
    exact Ev_cast (Ev.now _) (by rw [List.drop_eq_nil_of_le (by omega), List.drop_eq_nil_of_le (by omega)]; simp)
  | succ d ih =>
    intro i hd hi
    refine Ev_succ ?_
    simp only [laws_eqByteS.l0]
    simp only [if_pos (show (i : Int) < (a.length : Int) by omega), if_pos (show 0 ≤ (i : Int) by omega), if_pos (show (i : Int) < (b.length : Int) by omega)]
    rw [rd_lt (by omega), rd_lt (by omega), w64 (by omega) (by omega), drop_cons (l := a) (by omega), drop_cons (l := b) (i := i) (by omega)]
    by_cases e : a[i]'(by omega) = b[i]'(by omega)
    · simp only [if_pos e]
      exact Ev_cast (ih (i + 1) (by omega) (by omega)) (decide_eq_decide.2 (by rw [List.cons.injEq]; exact ⟨fun h => ⟨e, h⟩, fun h => h.2⟩))
    · simp only [if_neg e]
      exact Ev_cast (Ev.now _) (Eq.symm (decide_eq_false (by rw [List.cons.injEq]; exact fun h => e h.1)))
theorem eqByteS_ev (a b : List Int) (ha : a.length ≤ 4611686018427387904) : Ev (fun k => laws_eqByteS.f k a b) (decide (a = b)) := by
  unfold laws_eqByteS.f
  by_cases h : a.length = b.length
  · simp only [if_pos (show (a.length : Int) = (b.length : Int) by omega)]
    exact eqByteS_l0 a b h ha a.length 0 (by omega) (by omega)
  · simp only [if_neg (show ¬ (a.length : Int) = (b.length : Int) by omega)]
    exact Ev_cast (Ev.now _) (by simp; intro e; exact h (by rw [e]))
theorem eqByteS_same (a b : List Int) (ha : a.length ≤ 4611686018427387904) (e : a = b) : Ev (fun k => laws_eqByteS.f k a b) true := Ev_cast (eqByteS_ev a b ha) (by simp [e])
/-- What a list reads once it was marked from m on. -/
def markedFrom (m : Int) : Nat → List Int
  | 0 => []
  | n + 1 => (m % 256) :: markedFrom (m + 1) n
theorem markedFrom_length (n : Nat) : ∀ m, (markedFrom m n).length = n := by
  induction n with
  | zero => intro m; rfl
  | succ n ih => intro m; simp [markedFrom, ih]
theorem markByteS_l0 (m : Int) : ∀ (d i : Nat) (l : List Int), l.length - i = d → i ≤ l.length → l.length ≤ 1152921504606846976 → 0 ≤ m → m ≤ 1152921504606846976 + i →
    Ev (fun k => laws_markByteS.l0 k l m (i : Int)) (m + d, l.take i ++ markedFrom m d) := by
  intro d
  induction d generalizing m with
  | zero =>
    intro i l hd hi hl h0 hm
    refine Ev_succ ?_
    simp only [laws_markByteS.l0]
    simp only [if_neg (show ¬ (i : Int) < (l.length : Int) by omega)]
    exact Ev_cast (Ev.now _) (by rw [List.take_of_length_le (by omega)]; simp [markedFrom])
  | succ d ih =>
    intro i l hd hi hl h0 hm
    refine Ev_succ ?_
    simp only [laws_markByteS.l0]
    simp only [if_pos (show (i : Int) < (l.length : Int) by omega), if_pos (show 0 ≤ (i : Int) by omega)]
    rw [w64 (n := m + 1) (by omega) (by omega), w64 (by omega) (by omega)]
    refine Ev_cast (ih (m + 1) (i + 1) (l.set i (m % 256)) (by simp; omega) (by simp; omega) (by simpa using hl) (by omega) (by omega)) ?_
    refine Prod.ext (by simp; omega) ?_
    show (l.set i (m % 256)).take (i + 1) ++ markedFrom (m + 1) d = l.take i ++ markedFrom m (d + 1)
    have : (l.set i (m % 256)).take (i + 1) = l.take i ++ [m % 256] := by
      apply List.ext_getElem?
      intro j
      rw [List.getElem?_take, List.getElem?_append, List.getElem?_set]
      have : (l.take i).length = i := by simp; omega
      rw [this]
      by_cases h1 : j < i
      · rw [if_pos (by omega), if_neg (by omega), if_pos h1, List.getElem?_take, if_pos h1]
      · by_cases h2 : j = i
        · subst h2; simp; omega
        · rw [if_neg (by omega), if_neg h1]; simp; omega
    rw [this]; simp [markedFrom]
theorem markByteS_ev (l : List Int) (m : Int) (hl : l.length ≤ 1152921504606846976) (h0 : 0 ≤ m) (hm : m ≤ 1152921504606846976) : Ev (fun k => laws_markByteS.f k l m) (m + l.length, markedFrom m l.length) := by
  unfold laws_markByteS.f
  exact Ev_cast (markByteS_l0 m l.length 0 l (by omega) (by omega) hl h0 (by omega)) (by simp)
theorem heldByteS_l0 : ∀ (n : Nat) (m : Int) (i : Nat) (p : List Int), p.length = i → i + n ≤ 1152921504606846976 → 0 ≤ m → m ≤ 1152921504606846976 + i →
    Ev (fun k => laws_heldByteS.l0 k (p ++ markedFrom m n) m (i : Int)) (m + n) := by
  intro n
  induction n with
  | zero =>
    intro m i p hp hl h0 hm
    refine Ev_succ ?_
    simp only [laws_heldByteS.l0]
    simp only [markedFrom, List.append_nil, if_neg (show ¬ (i : Int) < (p.length : Int) by omega)]
    exact Ev_cast (Ev.now _) (by simp)
  | succ n ih =>
    intro m i p hp hl h0 hm
    refine Ev_succ ?_
    simp only [laws_heldByteS.l0]
    have hlen : (p ++ markedFrom m (n + 1)).length = i + n + 1 := by rw [List.length_append, markedFrom_length]; omega
    have hr : rd (p ++ markedFrom m (n + 1)) (i : Int) = m % 256 := by
      rw [rd_lt (by omega)]; simp [markedFrom, hp]
    simp only [if_pos (show (i : Int) < ((p ++ markedFrom m (n + 1)).length : Int) by omega), if_pos (show 0 ≤ (i : Int) by omega), hr, if_true]
    rw [w64 (n := m + 1) (by omega) (by omega), w64 (by omega) (by omega)]
    have e : p ++ markedFrom m (n + 1) = (p ++ [m % 256]) ++ markedFrom (m + 1) n := by simp [markedFrom]
    rw [e]
    exact Ev_cast (ih (m + 1) (i + 1) (p ++ [m % 256]) (by simp [hp]) (by omega) (by omega) (by omega)) (by omega)
theorem heldByteS_ev (m : Int) (n : Nat) (hl : n ≤ 1152921504606846976) (h0 : 0 ≤ m) (hm : m ≤ 1152921504606846976) : Ev (fun k => laws_heldByteS.f k (markedFrom m n) m) (m + n) := by
  unfold laws_heldByteS.f
  exact heldByteS_l0 n m 0 [] rfl (by omega) h0 (by omega)
/-! ### the laws' own words on bytes -/
theorem eqIntS_l0 (a b : List Int) (hl : a.length = b.length) (hb : a.length ≤ 4611686018427387904) :
    ∀ (d i : Nat), a.length - i = d → i ≤ a.length → Ev (fun k => laws_eqIntS.l0 k a b (i : Int)) (decide (a.drop i = b.drop i)) := by
  intro d
  induction d with
  | zero =>
    intro i hd hi
    refine Ev_succ ?_
    simp only [laws_eqIntS.l0]
    simp only [if_neg (show ¬ (i : Int) < (a.length : Int) by omega)]
    exact Ev_cast (Ev.now _) (by rw [List.drop_eq_nil_of_le (by omega), List.drop_eq_nil_of_le (by omega)]; simp)
  | succ d ih =>
    intro i hd hi
    refine Ev_succ ?_
    simp only [laws_eqIntS.l0]
    simp only [if_pos (show (i : Int) < (a.length : Int) by omega), if_pos (show 0 ≤ (i : Int) by omega), if_pos (show (i : Int) < (b.length : Int) by omega)]
    rw [rd_lt (by omega), rd_lt (by omega), w64 (by omega) (by omega), drop_cons (l := a) (by omega), drop_cons (l := b) (i := i) (by omega)]
    by_cases e : a[i]'(by omega) = b[i]'(by omega)
    · simp only [if_pos e]
      exact Ev_cast (ih (i + 1) (by omega) (by omega)) (decide_eq_decide.2 (by rw [List.cons.injEq]; exact ⟨fun h => ⟨e, h⟩, fun h => h.2⟩))
    · simp only [if_neg e]
      exact Ev_cast (Ev.now _) (Eq.symm (decide_eq_false (by rw [List.cons.injEq]; exact fun h => e h.1)))
theorem eqIntS_ev (a b : List Int) (ha : a.length ≤ 4611686018427387904) : Ev (fun k => laws_eqIntS.f k a b) (decide (a = b)) := by
  unfold laws_eqIntS.f
  by_cases h : a.length = b.length
  · simp only [if_pos (show (a.length : Int) = (b.length : Int) by omega)]
    exact eqIntS_l0 a b h ha a.length 0 (by omega) (by omega)
  · simp only [if_neg (show ¬ (a.length : Int) = (b.length : Int) by omega)]
    exact Ev_cast (Ev.now _) (by simp; intro e; exact h (by rw [e]))
theorem eqIntS_same (a b : List Int) (ha : a.length ≤ 4611686018427387904) (e : a = b) : Ev (fun k => laws_eqIntS.f k a b) true := Ev_cast (eqIntS_ev a b ha) (by simp [e])
theorem toIntS_l0 (l : List Int) : ∀ (d i : Nat) (o : List Int), l.length - i = d → i ≤ l.length → l.length ≤ 1152921504606846976 → o.length = l.length → o.take i = l.take i →
    Ev (fun k => laws_toIntS.l0 k l o (i : Int)) l := by
  intro d
  induction d with
  | zero =>
    intro i o hd hi hl ho ht
    refine Ev_succ ?_
    simp only [laws_toIntS.l0]
    simp only [if_neg (show ¬ (i : Int) < (l.length : Int) by omega)]
    exact Ev_cast (Ev.now _) (by rw [List.take_of_length_le (by omega), List.take_of_length_le (by omega)] at ht; exact ht)
  | succ d ih =>
    intro i o hd hi hl ho ht
    refine Ev_succ ?_
    simp only [laws_toIntS.l0]
    simp only [if_pos (show (i : Int) < (l.length : Int) by omega), if_pos (show 0 ≤ (i : Int) by omega), if_pos (show (i : Int) < (o.length : Int) by omega)]
    rw [rd_lt (by omega), w64 (by omega) (by omega)]
    refine ih (i + 1) _ (by omega) (by omega) hl (by simpa using ho) ?_
    apply List.ext_getElem?
    intro j
    rw [List.getElem?_take, List.getElem?_take]
    by_cases h1 : j < i
    · have := congrArg (fun x => x[j]?) ht
      simp only [List.getElem?_take, if_pos h1] at this
      rw [if_pos (by omega), if_pos (by omega), List.getElem?_set]
      simp only [Int.toNat_natCast]
      rw [if_neg (by omega), this]
    · by_cases h2 : j = i
      · subst h2
        rw [if_pos (by omega), if_pos (by omega)]
        simp [show j < l.length by omega, show j < o.length by omega]
      · rw [if_neg (by omega), if_neg (by omega)]
theorem toIntS_ev (l : List Int) (hl : l.length ≤ 35184372088832) : Ev (fun k => laws_toIntS.f k l) l := by
  unfold laws_toIntS.f
  simp only [if_pos (show 0 ≤ (l.length : Int) by omega), Int.toNat_natCast, if_pos hl]
  exact toIntS_l0 l l.length 0 _ (by omega) (by omega) (by omega) (by simp) (by simp)
theorem szIntS_eq (l : List Int) (a : Int) (h0 : 0 ≤ a) (h1 : a ≤ 1048576) (hl : l.length ≤ 9223372036854775807) : laws_szIntS.f l a = some (if a - l.length < 0 then -1 else a - l.length) := by
  unfold laws_szIntS.f
  rw [w64 (by omega) (by omega)]
  by_cases h : a - (l.length : Int) < 0
  · simp only [if_pos h]
  · simp only [if_neg h]
/-- What a list of whole numbers reads once it was marked from m on. -/
def imarkedFrom (m : Int) : Nat → List Int
  | 0 => []
  | n + 1 => m :: imarkedFrom (m + 1) n
theorem imarkedFrom_length (n : Nat) : ∀ m, (imarkedFrom m n).length = n := by
  induction n with
  | zero => intro m; rfl
  | succ n ih => intro m; simp [imarkedFrom, ih]
theorem markIntS_l0 (m : Int) : ∀ (d i : Nat) (l : List Int), l.length - i = d → i ≤ l.length → l.length ≤ 1152921504606846976 → 0 ≤ m → m ≤ 1152921504606846976 + i →
    Ev (fun k => laws_markIntS.l0 k l m (i : Int)) (m + d, l.take i ++ imarkedFrom m d) := by
  intro d
  induction d generalizing m with
  | zero =>
    intro i l hd hi hl h0 hm
    refine Ev_succ ?_
    simp only [laws_markIntS.l0]
    simp only [if_neg (show ¬ (i : Int) < (l.length : Int) by omega)]
    exact Ev_cast (Ev.now _) (by rw [List.take_of_length_le (by omega)]; simp [imarkedFrom])
  | succ d ih =>
    intro i l hd hi hl h0 hm
    refine Ev_succ ?_
    simp only [laws_markIntS.l0]
    simp only [if_pos (show (i : Int) < (l.length : Int) by omega), if_pos (show 0 ≤ (i : Int) by omega)]
    rw [w64 (n := m + 1) (by omega) (by omega), w64 (by omega) (by omega)]
    refine Ev_cast (ih (m + 1) (i + 1) (l.set i (m)) (by simp; omega) (by simp; omega) (by simpa using hl) (by omega) (by omega)) ?_
    refine Prod.ext (by simp; omega) ?_
    show (l.set i (m)).take (i + 1) ++ imarkedFrom (m + 1) d = l.take i ++ imarkedFrom m (d + 1)
    have : (l.set i (m)).take (i + 1) = l.take i ++ [m] := by
      apply List.ext_getElem?
      intro j
      rw [List.getElem?_take, List.getElem?_append, List.getElem?_set]
      have : (l.take i).length = i := by simp; omega
      rw [this]
      by_cases h1 : j < i
      · rw [if_pos (by omega), if_neg (by omega), if_pos h1, List.getElem?_take, if_pos h1]
      · by_cases h2 : j = i
        · subst h2; simp; omega
        · rw [if_neg (by omega), if_neg h1]; simp; omega
    rw [this]; simp [imarkedFrom]
theorem markIntS_ev (l : List Int) (m : Int) (hl : l.length ≤ 1152921504606846976) (h0 : 0 ≤ m) (hm : m ≤ 1152921504606846976) : Ev (fun k => laws_markIntS.f k l m) (m + l.length, imarkedFrom m l.length) := by
  unfold laws_markIntS.f
  exact Ev_cast (markIntS_l0 m l.length 0 l (by omega) (by omega) hl h0 (by omega)) (by simp)
/-! ### marks in texts -/
theorem markText_l0 : ∀ (n : Nat) (s : ByteArray), s.size + n ≤ 4611686018427387904 → ∃ r, Ev (fun k => laws_markText.l0 k (n : Int) s) r := by
  intro n
  induction n using Nat.strongRecOn with
  | ind n ih =>
    intro s h
    by_cases h0 : 0 < n
    · have hsz : ∀ x : Int, (strOfNums [x]).size = 1 := fun x => by simp [strOfNums]; rfl
      obtain ⟨r, hr⟩ := ih (n / 10) (by omega) (strOfNums [(wrap64 (48 + Int.tmod (n : Int) 10)) % 256] ++ s) (by rw [ByteArray.size_append, hsz]; omega)
      refine ⟨r, Ev_succ ?_⟩
      simp only [laws_markText.l0]
      simp only [if_pos (show (n : Int) > 0 by omega), Option.bind_some]
      simp only [hsz, if_pos (show 1 + s.size ≤ 9223372036854775807 by omega)]
      rw [show wrap64 (Int.tdiv (n : Int) 10) = ((n / 10 : Nat) : Int) by rw [Int.tdiv_eq_ediv_of_nonneg (by omega), w64 (by omega) (by omega)]; omega]
      exact hr
    · refine ⟨(⟨#[109]⟩ : ByteArray) ++ s, Ev_succ ?_⟩
      simp only [laws_markText.l0]
      simp only [if_neg (show ¬ (n : Int) > 0 by omega), if_pos (show 1 + s.size ≤ 9223372036854775807 by omega)]
      exact Ev.now _
theorem markText_ev (n : Nat) (h : n ≤ 1152921504606846976) : ∃ r, Ev (fun k => laws_markText.f k (n : Int)) r := by
  unfold laws_markText.f
  by_cases h0 : (n : Int) ≤ 0
  · simp only [if_pos h0]
    exact ⟨_, Ev.now _⟩
  · simp only [if_neg h0]
    exact markText_l0 n _ (by show 0 + n ≤ _; omega)
/-! ### PutVar -/
def putVar (n : Nat) : List Int := if 127 < n then ((n % 128 + 128 : Nat) : Int) :: putVar (n / 128) else [(n : Int)]
termination_by n
decreasing_by omega
theorem putVar_small {n : Nat} (h : n ≤ 127) : putVar n = [(n : Int)] := by rw [putVar, if_neg (by omega)]
theorem putVar_big {n : Nat} (h : 127 < n) : putVar n = ((n % 128 + 128 : Nat) : Int) :: putVar (n / 128) := by rw [putVar, if_pos h]
theorem putVar_length_le : ∀ (m n : Nat), n < 128 ^ (m + 1) → (putVar n).length ≤ m + 1 := by
  intro m
  induction m with
  | zero => intro n h; rw [putVar_small (by simpa using Nat.le_of_lt_succ h)]; simp
  | succ m ih =>
    intro n h
    by_cases hn : 127 < n
    · rw [putVar_big hn]
      have := ih (n / 128) (by rw [Nat.div_lt_iff_lt_mul (by omega), ← Nat.pow_succ]; exact h)
      simp; omega
    · rw [putVar_small (by omega)]; simp
theorem putVar_length_64 {n : Nat} (h : n ≤ 18446744073709551615) : (putVar n).length ≤ 10 := putVar_length_le 9 n (by omega)
theorem putVar_bytes : ∀ n, Bytes (putVar n) := by
  intro n
  induction n using Nat.strongRecOn with
  | ind n ih =>
    by_cases hn : 127 < n
    · rw [putVar_big hn]
      intro x hx
      rcases List.mem_cons.1 hx with rfl | hx
      · omega
      · exact ih _ (by omega) x hx
    · rw [putVar_small (by omega)]; exact Bytes.one (by omega) (by omega)
theorem putVar_ne_nil (n : Nat) : putVar n ≠ [] := by
  by_cases hn : 127 < n
  · rw [putVar_big hn]; simp
  · rw [putVar_small (by omega)]; simp
theorem putVar_pos (n : Nat) : 1 ≤ (putVar n).length := by
  have := putVar_ne_nil n
  cases h : putVar n with
  | nil => exact absurd h this
  | cons _ _ => simp
theorem or128 : ∀ x : Fin 256, Go.bits .or .u8 (x.val : Int) 128 = ((x.val % 128 + 128 : Nat) : Int) := by decide +kernel
theorem or128_nat (n : Nat) : Go.bits .or .u8 ((n : Int) % 256) 128 = ((n % 128 + 128 : Nat) : Int) := by
  have := or128 ⟨n % 256, by omega⟩
  simp only at this
  rw [show ((n : Int) % 256) = ((n % 256 : Nat) : Int) by omega, this]
  omega
theorem spec_PutVar_l0 : ∀ (n : Nat) (acc : List Int), acc.length + (putVar n).length ≤ 140737488355328 → Ev (fun k => spec_PutVar.l0 k (n : Int) acc) (acc ++ putVar n) := by
  intro n
  induction n using Nat.strongRecOn with
  | ind n ih =>
    intro acc h
    refine Ev_succ ?_
    simp only [spec_PutVar.l0]
    have hp := putVar_pos n
    by_cases hn : 127 < n
    · simp only [if_pos (show (n : Int) > 127 by omega), if_pos (show acc.length < 140737488355328 by omega)]
      rw [or128_nat, show (n : Int) / 128 = ((n / 128 : Nat) : Int) by omega]
      rw [putVar_big hn] at h
      refine Ev_cast (ih (n / 128) (by omega) _ (by simp at h ⊢; omega)) ?_
      rw [putVar_big hn]; simp
    · simp only [if_neg (show ¬ (n : Int) > 127 by omega), if_pos (show acc.length < 140737488355328 by omega)]
      rw [putVar_small (by omega), show (n : Int) % 256 = n by omega]
      exact Ev.now _
theorem spec_PutVar_ev (n : Nat) (h : n ≤ 18446744073709551615) : Ev (fun k => spec_PutVar.f k (n : Int)) (putVar n) := by
  unfold spec_PutVar.f
  have := putVar_length_64 h
  exact Ev_cast (spec_PutVar_l0 n [] (by simp; omega)) (by simp)
theorem impl_PutVar_l0 : ∀ (n : Nat) (acc : List Int), acc.length + (putVar n).length ≤ 140737488355328 → Ev (fun k => impl_PutVar.l0 k (n : Int) acc) (acc ++ putVar n) := by
  intro n
  induction n using Nat.strongRecOn with
  | ind n ih =>
    intro acc h
    refine Ev_succ ?_
    simp only [impl_PutVar.l0]
    have hp := putVar_pos n
    by_cases hn : 127 < n
    · simp only [if_pos (show (n : Int) > 127 by omega), if_pos (show acc.length < 140737488355328 by omega)]
      rw [or128_nat, show (n : Int) / 128 = ((n / 128 : Nat) : Int) by omega]
      rw [putVar_big hn] at h
      refine Ev_cast (ih (n / 128) (by omega) _ (by simp at h ⊢; omega)) ?_
      rw [putVar_big hn]; simp
    · simp only [if_neg (show ¬ (n : Int) > 127 by omega), if_pos (show acc.length < 140737488355328 by omega)]
      rw [putVar_small (by omega), show (n : Int) % 256 = n by omega]
      exact Ev.now _
theorem impl_PutVar_ev (n : Nat) (h : n ≤ 18446744073709551615) : Ev (fun k => impl_PutVar.f k (n : Int)) (putVar n) := by
  unfold impl_PutVar.f
  have := putVar_length_64 h
  exact Ev_cast (impl_PutVar_l0 n [] (by simp; omega)) (by simp)
/-! ### metas -/
def toM (x : S82) : S60 := ⟨x.f0, x.f1, x.f2, x.f3⟩
theorem szMeta_eq (n : Int) (a b : ByteArray) (m z : Int) (h0 : 0 ≤ z) (h1 : z ≤ 1048576) (ha : a.size ≤ 9223372036854775807) (hb : b.size ≤ 9223372036854775807) :
    ∃ q, laws_szMeta.f n a b m z = some q ∧ (q < 0 ∨ (0 ≤ q ∧ q ≤ z)) := by
  unfold laws_szMeta.f
  rw [w64 (n := z - a.size) (by omega) (by omega)]
  by_cases c1 : z - (a.size : Int) < 0
  · exact ⟨-1, by rw [if_pos c1], .inl (by omega)⟩
  · rw [if_neg c1, w64 (n := z - (a.size : Int) - b.size) (by omega) (by omega)]
    by_cases c2 : z - (a.size : Int) - b.size < 0
    · exact ⟨-1, by rw [if_pos c2], .inl (by omega)⟩
    · exact ⟨_, by rw [if_neg c2], .inr ⟨by omega, by omega⟩⟩
/-- one more place of a row that is filled from the front -/
theorem fill_step {α : Type} {o m : List α} {i : Nat} (ho : o.length = m.length) (hi : i < m.length) (ht : o.take i = m.take i) : (o.set i m[i]).take (i + 1) = m.take (i + 1) := by
  apply List.ext_getElem?
  intro j
  rw [List.getElem?_take, List.getElem?_take]
  by_cases h1 : j < i
  · have := congrArg (fun x => x[j]?) ht
    simp only [List.getElem?_take, if_pos h1] at this
    rw [if_pos (by omega), if_pos (by omega), List.getElem?_set, if_neg (by omega), this]
  · by_cases h2 : j = i
    · subst h2
      rw [if_pos (by omega), if_pos (by omega), List.getElem?_set]
      simp [show j < o.length by omega, hi]
    · rw [if_neg (by omega), if_neg (by omega)]
theorem eqMeta_same (x : S60) : laws_eqMeta.f x.f0 x.f1 x.f2 x.f3 x.f0 x.f1 x.f2 x.f3 = some true := by simp [laws_eqMeta.f]
/-! ### good metas -/
def metaOk (f : Int) (a b : ByteArray) (m : Int) : Bool := decide (1 ≤ f ∧ f ≤ 100000) && decide (1 ≤ (a.size : Int) ∧ (a.size : Int) ≤ 140) && decide (1 ≤ (b.size : Int) ∧ (b.size : Int) ≤ 140) && !(Op.bytesLess b.toList a.toList) && decide (1 ≤ m ∧ m ≤ 100)
theorem l9Meta_eq (f : Int) (a b : ByteArray) (m : Int) : spec_l9Meta.f f a b m = some (metaOk f a b m) := by
  unfold spec_l9Meta.f spec_l9File.f metaOk
  simp only [l1In_eq, Option.bind_some]
  by_cases h1 : 1 ≤ f ∧ f ≤ 100000
  · by_cases h2 : 1 ≤ (a.size : Int) ∧ (a.size : Int) ≤ 140
    · by_cases h3 : 1 ≤ (b.size : Int) ∧ (b.size : Int) ≤ 140
      · cases h4 : Op.bytesLess b.toList a.toList <;> simp [h1, h2, h3, h4]
      · simp [h1, h2, h3]
    · simp [h1, h2]
  · simp [h1]
theorem isGood_eq (f : Int) (a b : ByteArray) (m : Int) : impl_Meta_isGood.f f a b m = some (metaOk f a b m) := by
  unfold impl_Meta_isGood.f impl_isFile.f impl_isKeyText.f metaOk
  simp only [within_eq, Option.bind_some]
  by_cases h1 : 1 ≤ f ∧ f ≤ 100000
  · by_cases h2 : 1 ≤ (a.size : Int) ∧ (a.size : Int) ≤ 140
    · by_cases h3 : 1 ≤ (b.size : Int) ∧ (b.size : Int) ≤ 140
      · cases h4 : Op.bytesLess b.toList a.toList <;> simp [h1, h2, h3, h4]
      · simp [h1, h2, h3]
    · simp [h1, h2]
  · simp [h1]
/-! ### edits -/
theorem rd84_lt {l : List S84} {i : Nat} (h : i < l.length) : rd_T84 l (i : Int) = l[i] := by simp [rd_T84, h]
theorem rd86_lt {l : List S86} {i : Nat} (h : i < l.length) : rd_T86 l (i : Int) = l[i] := by simp [rd_T86, h]
def toA (x : S84) : S86 := ⟨x.f0, toM x.f1⟩
theorem szAddS_ev (l : List S84) (a0 : Int) (h0 : 0 ≤ a0) (h1 : a0 ≤ 1048576) (hl : l.length ≤ 9223372036854775807) (hs : ∀ x ∈ l, x.f1.f1.size ≤ 9223372036854775807 ∧ x.f1.f2.size ≤ 9223372036854775807) :
    ∃ z, Ev (fun k => laws_szAddS.f k l a0) z ∧ (z < 0 ∨ (0 ≤ z ∧ l.length ≤ 1048576)) := by
  have loop : ∀ (d i : Nat) (a : Int), l.length - i = d → i ≤ l.length → l.length ≤ 1048576 → 0 ≤ a → a ≤ 1048576 → ∃ z, Ev (fun k => laws_szAddS.l0 k l a (i : Int)) z ∧ (z < 0 ∨ 0 ≤ z) := by
    intro d
    induction d with
    | zero =>
      intro i a hd hi hl2 h0 h1
      refine ⟨a, Ev_succ ?_, .inr h0⟩
      simp only [laws_szAddS.l0]
      simp only [if_neg (show ¬ (i : Int) < (l.length : Int) by omega)]
      exact Ev.now _
    | succ d ih =>
      intro i a hd hi hl2 h0 h1
      have hx := hs (l[i]'(by omega)) (List.getElem_mem _)
      obtain ⟨z1, hz1, hz2⟩ := szMeta_eq (l[i]'(by omega)).f1.f0 (l[i]'(by omega)).f1.f1 (l[i]'(by omega)).f1.f2 (l[i]'(by omega)).f1.f3 a h0 h1 hx.1 hx.2
      by_cases hn : z1 < 0
      · refine ⟨-1, Ev_succ ?_, .inl (by omega)⟩
        simp only [laws_szAddS.l0, laws_szAdd.f]
        simp only [if_pos (show (i : Int) < (l.length : Int) by omega), if_pos (show 0 ≤ (i : Int) by omega)]
        rw [rd84_lt (by omega)]
        refine Ev.bind (a := -1) (Ev_some (by rw [hz1, Option.bind_some, if_pos hn])) ?_
        simp only [if_pos (show (-1 : Int) < 0 by omega)]
        exact Ev.now _
      · obtain ⟨g0, g1⟩ := hz2.resolve_left hn
        obtain ⟨z, hz, hz3⟩ := ih (i + 1) z1 (by omega) (by omega) hl2 g0 (by omega)
        refine ⟨z, Ev_succ ?_, hz3⟩
        simp only [laws_szAddS.l0, laws_szAdd.f]
        simp only [if_pos (show (i : Int) < (l.length : Int) by omega), if_pos (show 0 ≤ (i : Int) by omega)]
        rw [rd84_lt (by omega), w64 (n := (i : Int) + 1) (by omega) (by omega)]
        refine Ev.bind (a := z1) (Ev_some (by rw [hz1, Option.bind_some, if_neg hn])) ?_
        simp only [if_neg hn]
        exact hz
  unfold laws_szAddS.f
  rw [w64 (by omega) (by omega)]
  by_cases hn : a0 - (l.length : Int) < 0
  · exact ⟨-1, by simp only [if_pos hn]; exact Ev.now _, .inl (by omega)⟩
  · simp only [if_neg hn]
    obtain ⟨z, hz, hz2⟩ := loop l.length 0 (a0 - l.length) (by omega) (by omega) (by omega) (by omega) (by omega)
    exact ⟨z, hz, hz2.imp id (fun h => ⟨h, by omega⟩)⟩
theorem szEdit_ev (n1 n2 n3 : Int) (d : List Int) (l : List S84) (hd : d.length ≤ 9223372036854775807) (hl : l.length ≤ 9223372036854775807) (hs : ∀ x ∈ l, x.f1.f1.size ≤ 9223372036854775807 ∧ x.f1.f2.size ≤ 9223372036854775807) :
    ∃ z, Ev (fun k => laws_szEdit.f k n1 n2 n3 d l 1048576) z ∧ (z < 0 ∨ (d.length ≤ 1048576 ∧ l.length ≤ 1048576)) := by
  unfold laws_szEdit.f
  by_cases hn : (1048576 : Int) - d.length < 0
  · refine ⟨-1, ?_, .inl (by omega)⟩
    refine Ev.bind (Ev_some (szIntS_eq d 1048576 (by omega) (by omega) hd)) ?_
    simp only [if_pos hn, if_pos (show (-1 : Int) < 0 by omega)]
    exact Ev.now _
  · obtain ⟨z, hz, hz2⟩ := szAddS_ev l (1048576 - d.length) (by omega) (by omega) hl hs
    by_cases hz0 : z < 0
    · refine ⟨-1, ?_, .inl (by omega)⟩
      refine Ev.bind (Ev_some (szIntS_eq d 1048576 (by omega) (by omega) hd)) ?_
      simp only [if_neg hn]
      refine Ev.bind hz ?_
      simp only [if_pos hz0]
      exact Ev.now _
    · refine ⟨z, ?_, .inr ⟨by omega, (hz2.resolve_left hz0).2⟩⟩
      refine Ev.bind (Ev_some (szIntS_eq d 1048576 (by omega) (by omega) hd)) ?_
      simp only [if_neg hn]
      refine Ev.bind hz ?_
      simp only [if_neg hz0]
      exact Ev.now _
theorem toAddS_ev (l : List S84) (hl : l.length ≤ 1048576) : Ev (fun k => laws_toAddS.f k l) (l.map toA) := by
  have loop : ∀ (d i : Nat) (o : List S86), l.length - i = d → i ≤ l.length → o.length = l.length → o.take i = (l.map toA).take i → Ev (fun k => laws_toAddS.l0 k l o (i : Int)) (l.map toA) := by
    intro d
    induction d with
    | zero =>
      intro i o hd hi ho ht
      refine Ev_succ ?_
      simp only [laws_toAddS.l0]
      simp only [if_neg (show ¬ (i : Int) < (l.length : Int) by omega)]
      exact Ev_cast (Ev.now _) (by rw [List.take_of_length_le (by omega), List.take_of_length_le (by simp; omega)] at ht; exact ht)
    | succ d ih =>
      intro i o hd hi ho ht
      refine Ev_succ ?_
      simp only [laws_toAddS.l0]
      simp only [if_pos (show (i : Int) < (l.length : Int) by omega), if_pos (show 0 ≤ (i : Int) by omega), if_pos (show (i : Int) < (o.length : Int) by omega)]
      rw [rd84_lt (by omega), w64 (by omega) (by omega)]
      refine Ev.bind (a := ((l[i]'(by omega)).f0, (l[i]'(by omega)).f1.f0, (l[i]'(by omega)).f1.f1, (l[i]'(by omega)).f1.f2, (l[i]'(by omega)).f1.f3)) (Ev_some rfl) ?_
      refine ih (i + 1) _ (by omega) (by omega) (by simpa using ho) ?_
      rw [Int.toNat_natCast]
      have := fill_step (o := o) (m := l.map toA) (i := i) (by simpa using ho) (by simp; omega) ht
      simpa [toA, toM] using this
  unfold laws_toAddS.f
  simp only [if_pos (show 0 ≤ (l.length : Int) by omega), Int.toNat_natCast, if_pos (show l.length ≤ 5026338869833 by omega)]
  exact loop l.length 0 _ (by omega) (by omega) (by simp) (by simp)
theorem toEdit_ev (n1 n2 n3 : Int) (d : List Int) (l : List S84) (hd : d.length ≤ 1048576) (hl : l.length ≤ 1048576) : Ev (fun k => laws_toEdit.f k n1 n2 n3 d l) (n1, n2, n3, d, l.map toA) := by
  unfold laws_toEdit.f
  exact Ev.bind (toIntS_ev d (by omega)) (Ev.bind (toAddS_ev l hl) (Ev.now _))
theorem eqAddS_same (l : List S86) (hl : l.length ≤ 1048576) : Ev (fun k => laws_eqAddS.f k l l) true := by
  have loop : ∀ (d i : Nat), l.length - i = d → i ≤ l.length → Ev (fun k => laws_eqAddS.l0 k l l (i : Int)) true := by
    intro d
    induction d with
    | zero =>
      intro i hd hi
      refine Ev_succ ?_
      simp only [laws_eqAddS.l0]
      simp only [if_neg (show ¬ (i : Int) < (l.length : Int) by omega)]
      exact Ev.now _
    | succ d ih =>
      intro i hd hi
      refine Ev_succ ?_
      simp only [laws_eqAddS.l0]
      simp only [if_pos (show (i : Int) < (l.length : Int) by omega), if_pos (show 0 ≤ (i : Int) by omega)]
      rw [w64 (by omega) (by omega)]
      refine Ev.bind (a := true) (Ev_some (by simp [laws_eqAdd.f, laws_eqMeta.f])) ?_
      simp only [if_true]
      exact ih (i + 1) (by omega) (by omega)
  unfold laws_eqAddS.f
  simp only [if_true]
  exact loop l.length 0 (by omega) (by omega)
theorem eqEdit_same (n1 n2 n3 : Int) (d : List Int) (l : List S86) (hd : d.length ≤ 1048576) (hl : l.length ≤ 1048576) : Ev (fun k => laws_eqEdit.f k n1 n2 n3 d l n1 n2 n3 d l) true := by
  unfold laws_eqEdit.f
  simp only [if_true]
  refine Ev.bind (eqIntS_same d d (by omega) rfl) ?_
  simp only [if_true]
  refine Ev.bind (eqAddS_same l hl) ?_
  simp only [if_true]
  exact Ev.now _
theorem markAddS_l (n a : Nat) (h : a + 5 * n ≤ 1000000000) : Ev (fun k => laws_markAddS.l k n (a : Int)) ((a + 5 * n : Nat) : Int) := by
  induction n generalizing a with
  | zero => exact Ev.now _
  | succ n ih =>
    obtain ⟨r1, h1⟩ := markText_ev (a + 2) (by omega)
    obtain ⟨r2, h2⟩ := markText_ev (a + 3) (by omega)
    simp only [laws_markAddS.l]
    rw [w64 (n := (a : Int) + 1) (by omega) (by omega), w64 (n := (a : Int) + 1 + 1) (by omega) (by omega), w64 (n := (a : Int) + 1 + 1 + 1) (by omega) (by omega), w64 (n := (a : Int) + 1 + 1 + 1 + 1) (by omega) (by omega), w64 (n := (a : Int) + 1 + 1 + 1 + 1 + 1) (by omega) (by omega)]
    rw [show (a : Int) + 1 + 1 = ((a + 2 : Nat) : Int) by omega, show ((a + 2 : Nat) : Int) + 1 = ((a + 3 : Nat) : Int) by omega, show ((a + 3 : Nat) : Int) + 1 + 1 = ((a + 5 : Nat) : Int) by omega]
    refine Ev.bind h1 (Ev.bind h2 (Ev_cast (ih (a + 5) (by omega)) ?_))
    omega
theorem markEdit_ev (n1 n2 n3 : Int) (d : List Int) (l : List S86) (hd : d.length ≤ 1048576) (hl : l.length ≤ 1048576) : ∃ p : Int × List Int, Ev (fun k => laws_markEdit.f k n1 n2 n3 d l 1) p ∧ 0 ≤ p.1 := by
  refine ⟨(((1 + d.length + 5 * l.length : Nat) : Int), imarkedFrom 1 d.length), ?_, by simp only; omega⟩
  unfold laws_markEdit.f laws_markAddS.f
  refine Ev.bind (markIntS_ev d 1 (by omega) (by omega) (by omega)) ?_
  simp only [if_pos (show l.length ≤ 1152921504606846976 by omega)]
  rw [show (1 : Int) + (d.length : Int) = ((1 + d.length : Nat) : Int) by omega]
  exact Ev.bind (markAddS_l l.length (1 + d.length) (by omega)) (Ev.now _)
/-! #### what is good -/
def fileOk (n : Int) : Bool := decide (1 ≤ n ∧ n ≤ 100000)
def addOk (x : S86) : Bool := decide (0 ≤ x.f0 ∧ x.f0 ≤ 2) && metaOk x.f1.f0 x.f1.f1 x.f1.f2 x.f1.f3
def goodE (n1 n2 n3 : Int) (d : List Int) (l : List S86) : Bool := fileOk n1 && (fileOk n2 && (decide (0 ≤ n3 ∧ n3 ≤ 1000000000) && (decide ((d.length : Int) ≤ 24) && (decide ((l.length : Int) ≤ 24) && (d.all fileOk && l.all addOk)))))
theorem l9Edit_l1 (l : List S86) (hl : l.length ≤ 1048576) : ∀ (d i : Nat), l.length - i = d → i ≤ l.length → Ev (fun k => spec_l9Edit.l1 k l (l.length : Int) (i : Int)) ((l.drop i).all addOk) := by
  intro d
  induction d with
  | zero =>
    intro i hd hi
    refine Ev_succ ?_
    simp only [spec_l9Edit.l1]
    simp only [if_neg (show ¬ (i : Int) < (l.length : Int) by omega)]
    exact Ev_cast (Ev.now _) (by rw [List.drop_eq_nil_of_le (by omega)]; rfl)
  | succ d ih =>
    intro i hd hi
    refine Ev_succ ?_
    simp only [spec_l9Edit.l1]
    simp only [if_pos (show (i : Int) < (l.length : Int) by omega), if_pos (show 0 ≤ (i : Int) by omega)]
    rw [rd86_lt (by omega), w64 (by omega) (by omega), drop_cons (l := l) (i := i) (by omega), List.all_cons]
    have nx := ih (i + 1) (by omega) (by omega)
    generalize l[i]'(by omega) = x
    simp only [l1In_eq, l9Meta_eq, Option.bind_some]
    by_cases h1 : 0 ≤ x.f0 ∧ x.f0 ≤ 2
    · simp only [h1]
      cases h2 : metaOk x.f1.f0 x.f1.f1 x.f1.f2 x.f1.f3
      · exact Ev_cast (Ev.now _) (by simp [addOk, h2])
      · exact Ev_cast nx (by simp [addOk, h1, h2])
    · simp only [h1]
      exact Ev_cast (Ev.now _) (by simp [addOk, h1])
theorem l9Edit_l0 (n1 n2 n3 : Int) (dr : List Int) (l : List S86) (hl : l.length ≤ 1048576) (hdr : dr.length ≤ 1048576) : ∀ (d i : Nat), dr.length - i = d → i ≤ dr.length → Ev (fun k => spec_l9Edit.l0 k dr (dr.length : Int) (i : Int) n1 n2 n3 dr l) ((dr.drop i).all fileOk && l.all addOk) := by
  intro d
  induction d with
  | zero =>
    intro i hd hi
    refine Ev_succ ?_
    simp only [spec_l9Edit.l0]
    simp only [if_neg (show ¬ (i : Int) < (dr.length : Int) by omega)]
    exact Ev_cast (l9Edit_l1 l hl l.length 0 (by omega) (by omega)) (by rw [List.drop_eq_nil_of_le (show dr.length ≤ i by omega)]; simp)
  | succ d ih =>
    intro i hd hi
    refine Ev_succ ?_
    simp only [spec_l9Edit.l0, spec_l9File.f]
    simp only [if_pos (show (i : Int) < (dr.length : Int) by omega), if_pos (show 0 ≤ (i : Int) by omega)]
    rw [rd_lt (by omega), w64 (by omega) (by omega), drop_cons (l := dr) (i := i) (by omega), List.all_cons]
    have nx := ih (i + 1) (by omega) (by omega)
    generalize dr[i]'(by omega) = x
    simp only [l1In_eq, Option.bind_some]
    by_cases h1 : 1 ≤ x ∧ x ≤ 100000
    · simp only [h1]
      exact Ev_cast nx (by simp [fileOk, h1])
    · simp only [h1]
      exact Ev_cast (Ev.now _) (by simp [fileOk, h1])
theorem spec_goodE (n1 n2 n3 : Int) (dr : List Int) (l : List S86) (hl : l.length ≤ 1048576) (hdr : dr.length ≤ 1048576) : Ev (fun k => spec_l9Edit.f k n1 n2 n3 dr l) (goodE n1 n2 n3 dr l) := by
  have fin : ∀ b : Bool, Ev (fun k => spec_l9Edit.j0 k b n1 n2 n3 dr l) (if b = true then false else dr.all fileOk && l.all addOk) := by
    intro b
    refine Ev_succ ?_
    simp only [spec_l9Edit.j0]
    cases b with
    | true => exact Ev.now _
    | false =>
      simp only [Bool.false_eq_true, if_false]
      exact l9Edit_l0 n1 n2 n3 dr l hl hdr dr.length 0 (by omega) (by omega)
  unfold spec_l9Edit.f spec_l9File.f goodE fileOk
  simp only [l1In_eq, Option.bind_some]
  by_cases h1 : 1 ≤ n1 ∧ n1 ≤ 100000
  · simp only [h1]
    by_cases h2 : 1 ≤ n2 ∧ n2 ≤ 100000
    · simp only [h2]
      by_cases h3 : 0 ≤ n3 ∧ n3 ≤ 1000000000
      · simp only [h3]
        by_cases h4 : (dr.length : Int) > 24
        · simp only [if_pos h4]
          exact Ev_cast (fin _) (by simp [show ¬ (dr.length : Int) ≤ 24 by omega])
        · simp only [if_neg h4]
          refine Ev_cast (fin _) ?_
          by_cases h5 : (l.length : Int) > 24
          · simp [show (dr.length : Int) ≤ 24 by omega, h5, show ¬ (l.length : Int) ≤ 24 by omega]
          · simp only [show (dr.length : Int) ≤ 24 by omega, h5, show (l.length : Int) ≤ 24 by omega]
            have : fileOk = fun n => decide (1 ≤ n) && decide (n ≤ 100000) := by funext n; simp [fileOk]
            simp [this]
      · simp only [h3]
        exact Ev_cast (fin _) (by simp)
    · simp only [h2]
      exact Ev_cast (fin _) (by simp)
  · simp only [h1]
    exact Ev_cast (fin _) (by simp)
theorem idxInt_ev (s : List Int) (hs : s.length < 17592186044416) : ∀ (d q : Nat), s.length - q = d → q ≤ s.length → ∃ r, Ev (fun k => slices_IndexFunc_int_int.l0 k s (s.length : Int) (q : Int)) r ∧ decide (r ≥ 0) = !((s.drop q).all fileOk) := by
  intro d
  induction d with
  | zero =>
    intro q hd hq
    refine ⟨-1, Ev_succ ?_, by rw [List.drop_eq_nil_of_le (by omega)]; rfl⟩
    simp only [slices_IndexFunc_int_int.l0]
    simp only [if_neg (show ¬ (q : Int) < (s.length : Int) by omega)]
    exact Ev.now _
  | succ d ih =>
    intro q hd hq
    have he : impl_Edit_isGood_1.f (s[q]'(by omega)) = some (!(fileOk (s[q]'(by omega)))) := by unfold impl_Edit_isGood_1.f impl_isFile.f fileOk; simp only [within_eq, Option.bind_some]
    obtain ⟨r, hr, hr2⟩ := ih (q + 1) (by omega) (by omega)
    cases hb : fileOk (s[q]'(by omega)) with
    | false =>
      refine ⟨(q : Int), Ev_succ ?_, ?_⟩
      · simp only [slices_IndexFunc_int_int.l0]
        simp only [if_pos (show (q : Int) < (s.length : Int) by omega), if_pos (show 0 ≤ (q : Int) by omega)]
        rw [rd_lt (show q < s.length by omega)]
        refine Ev.bind (Ev_some he) ?_
        simp only [hb, Bool.not_false, if_true]
        exact Ev.now _
      · rw [List.drop_eq_getElem_cons (show q < s.length by omega), List.all_cons, hb]
        simp
    | true =>
      refine ⟨r, Ev_succ ?_, ?_⟩
      · simp only [slices_IndexFunc_int_int.l0]
        simp only [if_pos (show (q : Int) < (s.length : Int) by omega), if_pos (show 0 ≤ (q : Int) by omega)]
        rw [rd_lt (show q < s.length by omega), w64 (by omega) (by omega)]
        refine Ev.bind (Ev_some he) ?_
        simp only [hb, Bool.not_true, Bool.false_eq_true, if_false]
        exact hr
      · rw [hr2, List.drop_eq_getElem_cons (show q < s.length by omega), List.all_cons, hb, Bool.true_and]
theorem idxAdd_ev (s : List S86) (hs : s.length < 17592186044416) : ∀ (d q : Nat), s.length - q = d → q ≤ s.length → ∃ r, Ev (fun k => impl_Add_73.l0 k s (s.length : Int) (q : Int)) r ∧ decide (r ≥ 0) = !((s.drop q).all addOk) := by
  intro d
  induction d with
  | zero =>
    intro q hd hq
    refine ⟨-1, Ev_succ ?_, by rw [List.drop_eq_nil_of_le (by omega)]; rfl⟩
    simp only [impl_Add_73.l0]
    simp only [if_neg (show ¬ (q : Int) < (s.length : Int) by omega)]
    exact Ev.now _
  | succ d ih =>
    intro q hd hq
    have he : impl_Edit_isGood_2.f (s[q]'(by omega)).f0 (s[q]'(by omega)).f1.f0 (s[q]'(by omega)).f1.f1 (s[q]'(by omega)).f1.f2 (s[q]'(by omega)).f1.f3 = some (!(addOk (s[q]'(by omega)))) := by
      generalize s[q]'(by omega) = x
      unfold impl_Edit_isGood_2.f addOk
      simp only [within_eq, isGood_eq, Option.bind_some]
      by_cases h : 0 ≤ x.f0 ∧ x.f0 ≤ 2 <;> simp [h]
    obtain ⟨r, hr, hr2⟩ := ih (q + 1) (by omega) (by omega)
    cases hb : addOk (s[q]'(by omega)) with
    | false =>
      refine ⟨(q : Int), Ev_succ ?_, ?_⟩
      · simp only [impl_Add_73.l0]
        simp only [if_pos (show (q : Int) < (s.length : Int) by omega), if_pos (show 0 ≤ (q : Int) by omega)]
        rw [rd86_lt (show q < s.length by omega)]
        refine Ev.bind (Ev_some he) ?_
        simp only [hb, Bool.not_false, if_true]
        exact Ev.now _
      · rw [List.drop_eq_getElem_cons (show q < s.length by omega), List.all_cons, hb]
        simp
    | true =>
      refine ⟨r, Ev_succ ?_, ?_⟩
      · simp only [impl_Add_73.l0]
        simp only [if_pos (show (q : Int) < (s.length : Int) by omega), if_pos (show 0 ≤ (q : Int) by omega)]
        rw [rd86_lt (show q < s.length by omega), w64 (by omega) (by omega)]
        refine Ev.bind (Ev_some he) ?_
        simp only [hb, Bool.not_true, Bool.false_eq_true, if_false]
        exact hr
      · rw [hr2, List.drop_eq_getElem_cons (show q < s.length by omega), List.all_cons, hb, Bool.true_and]
theorem impl_goodE (n1 n2 n3 : Int) (dr : List Int) (l : List S86) (hl : l.length ≤ 1048576) (hdr : dr.length ≤ 1048576) : Ev (fun k => impl_Edit_isGood.f k n1 n2 n3 dr l) (goodE n1 n2 n3 dr l) := by
  obtain ⟨r1, e1, g1⟩ := idxInt_ev dr (by omega) dr.length 0 (by omega) (by omega)
  obtain ⟨r2, e2, g2⟩ := idxAdd_ev l (by omega) l.length 0 (by omega) (by omega)
  rw [List.drop_zero] at g1 g2
  unfold impl_Edit_isGood.f impl_isFile.f goodE fileOk slices_ContainsFunc_int_int.f slices_IndexFunc_int_int.f impl_Add_59.f impl_Add_73.f
  simp only [within_eq, Option.bind_some]
  by_cases h1 : 1 ≤ n1 ∧ n1 ≤ 100000
  · simp only [h1, decide_true, Bool.true_and, if_true, and_self]
    by_cases h2 : 1 ≤ n2 ∧ n2 ≤ 100000
    · simp only [h2, decide_true, Bool.true_and, if_true, and_self]
      by_cases h3 : 0 ≤ n3 ∧ n3 ≤ 1000000000
      · simp only [h3, decide_true, Bool.true_and, if_true, and_self]
        by_cases h4 : (dr.length : Int) ≤ 24
        · simp only [h4, decide_true, Bool.true_and, if_true]
          by_cases h5 : (l.length : Int) ≤ 24
          · simp only [h5, decide_true, Bool.true_and, if_true]
            refine Ev.bind (Ev.bind e1 (Ev.now _)) ?_
            rw [g1]
            change Ev _ (dr.all fileOk && l.all addOk)
            cases hb : dr.all fileOk with
            | false => simp only [Bool.not_false, if_true]; exact Ev_cast (Ev.now _) (by simp)
            | true =>
              simp only [Bool.not_true, Bool.false_eq_true, if_false]
              refine Ev.bind (Ev.bind e2 (Ev.now _)) ?_
              rw [g2]
              exact Ev_cast (Ev.now _) (by simp)
          · simp only [h5, decide_false, Bool.false_and, if_false]; exact Ev.now _
        · simp only [h4, decide_false, Bool.false_and, if_false]; exact Ev.now _
      · simp only [h3, decide_false, Bool.false_and, Bool.false_eq_true, if_false]; exact Ev.now _
    · simp only [h2, decide_false, Bool.false_and, Bool.false_eq_true, if_false]; exact Ev.now _
  · simp only [h1, decide_false, Bool.false_and, Bool.false_eq_true, if_false]; exact Ev.now _
/-! #### the bytes -/
def putL (l : List Int) : List Int := (l.map fun n => putVar n.toNat).flatten
def addB (x : S86) : List Int := putL [x.f0, x.f1.f0, x.f1.f3] ++ (putVar x.f1.f1.size ++ bytesOf x.f1.f1) ++ (putVar x.f1.f2.size ++ bytesOf x.f1.f2)
def editB (n1 n2 n3 : Int) (d : List Int) (l : List S86) : List Int := putL [n1, n2, n3, (d.length : Int)] ++ putL d ++ putL [(l.length : Int)] ++ (l.map addB).flatten
def fine (l : List Int) : Prop := ∀ x ∈ l, 0 ≤ x ∧ x ≤ 1000000000
theorem fine.wrap {x : Int} (h : 0 ≤ x ∧ x ≤ 1000000000) : IntKind.u64.wrap x = (x.toNat : Int) := by rw [wrap_u64]; omega
theorem putL_len : ∀ (l : List Int), fine l → (putL l).length ≤ 10 * l.length
  | [], _ => by simp [putL]
  | x :: r, h => by
    have h1 := putVar_length_64 (n := x.toNat) (by have := h x (List.mem_cons_self ..); omega)
    have h2 := putL_len r (fun y hy => h y (List.mem_cons_of_mem _ hy))
    unfold putL at h2 ⊢
    simp only [List.map_cons, List.flatten_cons, List.length_append, List.length_cons]
    omega
theorem impl_p_ev : ∀ (l out : List Int), fine l → out.length + 10 * l.length ≤ 1000000000 → Ev (fun k => impl_editBytes.p k l out) (out ++ putL l)
  | [], out, _, _ => by simp only [impl_editBytes.p]; exact Ev_cast (Ev.now _) (by simp [putL])
  | x :: r, out, h, hl => by
    have hx := h x (List.mem_cons_self ..)
    have hp := putVar_length_64 (n := x.toNat) (by omega)
    have hlen : (x :: r).length = r.length + 1 := rfl
    simp only [impl_editBytes.p]
    rw [fine.wrap hx]
    refine Ev.bind (impl_PutVar_ev _ (by omega)) ?_
    simp only [if_pos (show out.length + (putVar x.toNat).length < 140737488355328 by omega)]
    exact Ev_cast (impl_p_ev r _ (fun y hy => h y (List.mem_cons_of_mem _ hy)) (by rw [List.length_append]; omega)) (by simp [putL])
theorem impl_sized_ev (s : ByteArray) (h : s.size ≤ 1000000) : Ev (fun k => impl_sized.f k s) (putVar s.size ++ bytesOf s) := by
  unfold impl_sized.f
  have hp := putVar_length_64 (n := s.size) (by omega)
  rw [show IntKind.u64.wrap (s.size : Int) = (s.size : Int) by rw [wrap_u64]; omega]
  refine Ev.bind (impl_PutVar_ev _ (by omega)) ?_
  simp only [if_pos (show (putVar s.size).length + s.size < 140737488355328 by omega)]
  exact Ev.now _
def fineA (x : S86) : Prop := (0 ≤ x.f0 ∧ x.f0 ≤ 1000000000) ∧ (0 ≤ x.f1.f0 ∧ x.f1.f0 ≤ 1000000000) ∧ (0 ≤ x.f1.f3 ∧ x.f1.f3 ≤ 1000000000) ∧ x.f1.f1.size ≤ 140 ∧ x.f1.f2.size ≤ 140
theorem fineA.three {x : S86} (h : fineA x) : fine [x.f0, x.f1.f0, x.f1.f3] := by
  intro y hy
  simp only [List.mem_cons, List.not_mem_nil, or_false] at hy
  rcases hy with rfl | rfl | rfl
  · exact h.1
  · exact h.2.1
  · exact h.2.2.1
theorem addB_len {x : S86} (h : fineA x) : (addB x).length ≤ 330 := by
  have h1 := putL_len _ h.three
  have h2 := putVar_length_64 (n := x.f1.f1.size) (by have := h.2.2.2.1; omega)
  have h3 := putVar_length_64 (n := x.f1.f2.size) (by have := h.2.2.2.2; omega)
  have := h.2.2.2
  unfold addB
  simp only [List.length_append, bytesOf_length, List.length_cons, List.length_nil] at h1 ⊢
  omega
theorem impl_a_ev : ∀ (l : List S86) (out : List Int), (∀ x ∈ l, fineA x) → out.length + 1000 * l.length ≤ 100000000 → Ev (fun k => impl_editBytes.a k l out) (out ++ (l.map addB).flatten)
  | [], out, _, _ => by simp only [impl_editBytes.a]; exact Ev_cast (Ev.now _) (by simp)
  | x :: r, out, h, hl => by
    have hx := h x (List.mem_cons_self ..)
    have hb := addB_len hx
    have hlen : (x :: r).length = r.length + 1 := rfl
    have h1 := putL_len _ hx.three
    have h2 := putVar_length_64 (n := x.f1.f1.size) (by have := hx.2.2.2.1; omega)
    have h3 := putVar_length_64 (n := x.f1.f2.size) (by have := hx.2.2.2.2; omega)
    have h4 := hx.2.2.2
    simp only [List.length_cons, List.length_nil] at h1
    simp only [impl_editBytes.a]
    refine Ev.bind (impl_p_ev _ out hx.three (by simp only [List.length_cons, List.length_nil]; omega)) ?_
    refine Ev.bind (impl_sized_ev _ (by omega)) (Ev.bind (impl_sized_ev _ (by omega)) ?_)
    simp only [if_pos (show (out ++ putL [x.f0, x.f1.f0, x.f1.f3]).length + (putVar x.f1.f1.size ++ bytesOf x.f1.f1).length + (putVar x.f1.f2.size ++ bytesOf x.f1.f2).length < 140737488355328 by simp only [List.length_append, bytesOf_length]; omega)]
    refine Ev_cast (impl_a_ev r _ (fun y hy => h y (List.mem_cons_of_mem _ hy)) ?_) (by simp [addB])
    simp only [List.length_append, bytesOf_length]
    omega
theorem flat_len : ∀ (l : List S86), (∀ x ∈ l, fineA x) → ((l.map addB).flatten).length ≤ 330 * l.length
  | [], _ => by simp
  | x :: r, h => by
    have h1 := addB_len (h x (List.mem_cons_self ..))
    have h2 := flat_len r (fun y hy => h y (List.mem_cons_of_mem _ hy))
    simp only [List.map_cons, List.flatten_cons, List.length_append, List.length_cons]
    omega
/-- what the bytes of an edit need: all numbers small and not below 0, all texts short -/
structure FineE (n1 n2 n3 : Int) (d : List Int) (l : List S86) : Prop where
  h1 : 0 ≤ n1 ∧ n1 ≤ 1000000000
  h2 : 0 ≤ n2 ∧ n2 ≤ 1000000000
  h3 : 0 ≤ n3 ∧ n3 ≤ 1000000000
  hd : fine d
  hl : ∀ x ∈ l, fineA x
  nd : d.length ≤ 24
  nl : l.length ≤ 24
theorem FineE.of_good {n1 n2 n3 : Int} {d : List Int} {l : List S86} (h : goodE n1 n2 n3 d l = true) : FineE n1 n2 n3 d l := by
  unfold goodE fileOk at h
  simp only [Bool.and_eq_true, decide_eq_true_eq] at h
  obtain ⟨h1, h2, h3, h4, h5, h6, h7⟩ := h
  refine ⟨by omega, by omega, by omega, fun x hx => ?_, fun x hx => ?_, by omega, by omega⟩
  · have := List.all_eq_true.1 h6 x hx
    unfold fileOk at this
    simp only [decide_eq_true_eq] at this
    omega
  · have := List.all_eq_true.1 h7 x hx
    unfold addOk metaOk at this
    simp only [Bool.and_eq_true, decide_eq_true_eq] at this
    obtain ⟨a1, ⟨⟨⟨a2, a3⟩, a4⟩, a5⟩, a6⟩ := this
    exact ⟨by omega, by omega, by omega, by omega, by omega⟩
theorem FineE.four {n1 n2 n3 : Int} {d : List Int} {l : List S86} (h : FineE n1 n2 n3 d l) : fine [n1, n2, n3, (d.length : Int)] := by
  intro y hy
  simp only [List.mem_cons, List.not_mem_nil, or_false] at hy
  rcases hy with rfl | rfl | rfl | rfl
  · exact h.h1
  · exact h.h2
  · exact h.h3
  · have := h.nd; omega
theorem FineE.one {n1 n2 n3 : Int} {d : List Int} {l : List S86} (h : FineE n1 n2 n3 d l) : fine [(l.length : Int)] := by
  intro y hy
  simp only [List.mem_cons, List.not_mem_nil, or_false] at hy
  subst hy
  have := h.nl; omega
theorem editB_len {n1 n2 n3 : Int} {d : List Int} {l : List S86} (h : FineE n1 n2 n3 d l) : (editB n1 n2 n3 d l).length ≤ 10000 := by
  have h1 := putL_len _ h.four
  have h2 := putL_len _ h.hd
  have h3 := putL_len _ h.one
  have h4 := flat_len _ h.hl
  have := h.nd
  have := h.nl
  unfold editB
  simp only [List.length_append, List.length_cons, List.length_nil] at h1 h3 ⊢
  omega
theorem impl_editB_ev {n1 n2 n3 : Int} {d : List Int} {l : List S86} (h : FineE n1 n2 n3 d l) : Ev (fun k => impl_editBytes.f k n1 n2 n3 d l) (editB n1 n2 n3 d l) := by
  have h1 := putL_len _ h.four
  have h2 := putL_len _ h.hd
  have h3 := putL_len _ h.one
  have hnd := h.nd
  have hnl := h.nl
  simp only [List.length_cons, List.length_nil] at h1 h3
  unfold impl_editBytes.f
  refine Ev.bind (impl_p_ev _ [] h.four (by simp)) ?_
  refine Ev.bind (impl_p_ev _ _ h.hd (by simp only [List.length_append, List.length_nil]; omega)) ?_
  refine Ev.bind (impl_p_ev _ _ h.one (by simp only [List.length_append, List.length_nil, List.length_cons]; omega)) ?_
  refine Ev_cast (impl_a_ev l _ h.hl (by simp only [List.length_append, List.length_nil]; omega)) (by simp [editB])
theorem l9Put_ev (l out : List Int) (hl : fine l) (hn : out.length + 10 * l.length ≤ 1000000000) : Ev (fun k => spec_l9Put.f k out l) (out ++ putL l) := by
  have loop : ∀ (d i : Nat) (acc : List Int), l.length - i = d → i ≤ l.length → acc.length + 10 * d ≤ 1000000000 → Ev (fun k => spec_l9Put.l0 k acc l (l.length : Int) (i : Int)) (acc ++ putL (l.drop i)) := by
    intro d
    induction d with
    | zero =>
      intro i acc hd hi ha
      refine Ev_succ ?_
      simp only [spec_l9Put.l0]
      simp only [if_neg (show ¬ (i : Int) < (l.length : Int) by omega)]
      exact Ev_cast (Ev.now _) (by rw [List.drop_eq_nil_of_le (by omega)]; simp [putL])
    | succ d ih =>
      intro i acc hd hi ha
      refine Ev_succ ?_
      simp only [spec_l9Put.l0]
      simp only [if_pos (show (i : Int) < (l.length : Int) by omega), if_pos (show 0 ≤ (i : Int) by omega)]
      have hx := hl (l[i]'(by omega)) (List.getElem_mem _)
      have hp := putVar_length_64 (n := (l[i]'(by omega)).toNat) (by omega)
      rw [rd_lt (by omega), w64 (n := (i : Int) + 1) (by omega) (by omega), fine.wrap hx, drop_cons (l := l) (i := i) (by omega)]
      refine Ev.bind (spec_PutVar_ev _ (by omega)) ?_
      simp only [if_pos (show acc.length + (putVar (l[i]'(by omega)).toNat).length < 140737488355328 by omega)]
      exact Ev_cast (ih (i + 1) _ (by omega) (by omega) (by rw [List.length_append]; omega)) (by unfold putL; rw [List.map_cons, List.flatten_cons, List.append_assoc])
  unfold spec_l9Put.f
  exact Ev_cast (loop l.length 0 out (by omega) (by omega) hn) (by simp)
theorem l9Bytes_l0 (l : List S86) (hl : ∀ x ∈ l, fineA x) (hn : l.length ≤ 24) : ∀ (d i : Nat) (acc : List Int), l.length - i = d → i ≤ l.length → acc.length + 1000 * d ≤ 100000000 → Ev (fun k => spec_l9Bytes.l0 k acc l (l.length : Int) (i : Int)) (acc ++ ((l.drop i).map addB).flatten) := by
  intro d
  induction d with
  | zero =>
    intro i acc hd hi ha
    refine Ev_succ ?_
    simp only [spec_l9Bytes.l0]
    simp only [if_neg (show ¬ (i : Int) < (l.length : Int) by omega)]
    exact Ev_cast (Ev.now _) (by rw [List.drop_eq_nil_of_le (by omega)]; simp)
  | succ d ih =>
    intro i acc hd hi ha
    refine Ev_succ ?_
    simp only [spec_l9Bytes.l0]
    simp only [if_pos (show (i : Int) < (l.length : Int) by omega), if_pos (show 0 ≤ (i : Int) by omega)]
    rw [rd86_lt (by omega), w64 (n := (i : Int) + 1) (by omega) (by omega), drop_cons (l := l) (i := i) (by omega)]
    have hx := hl (l[i]'(by omega)) (List.getElem_mem _)
    generalize l[i]'(by omega) = x at hx ⊢
    have hb := addB_len hx
    have e1 := hx.1
    have e2 := hx.2.1
    have e3 := hx.2.2.1
    have e4 := hx.2.2.2
    have f4 : fine [x.f0, x.f1.f0, x.f1.f3, (x.f1.f1.size : Int)] := by
      intro y hy
      simp only [List.mem_cons, List.not_mem_nil, or_false] at hy
      rcases hy with rfl | rfl | rfl | rfl <;> omega
    have f1 : fine [(x.f1.f2.size : Int)] := by
      intro y hy
      simp only [List.mem_cons, List.not_mem_nil, or_false] at hy
      subst hy; omega
    have g4 := putL_len _ f4
    have g1 := putL_len _ f1
    simp only [List.length_cons, List.length_nil] at g4 g1
    refine Ev.bind (l9Put_ev _ acc f4 (by simp only [List.length_cons, List.length_nil]; omega)) ?_
    simp only [if_pos (show (acc ++ putL [x.f0, x.f1.f0, x.f1.f3, (x.f1.f1.size : Int)]).length + x.f1.f1.size < 140737488355328 by rw [List.length_append]; omega)]
    refine Ev.bind (l9Put_ev _ _ f1 (by simp only [List.length_append, bytesOf_length, List.length_cons, List.length_nil]; omega)) ?_
    simp only [if_pos (show (acc ++ putL [x.f0, x.f1.f0, x.f1.f3, (x.f1.f1.size : Int)] ++ bytesOf x.f1.f1 ++ putL [(x.f1.f2.size : Int)]).length + x.f1.f2.size < 140737488355328 by simp only [List.length_append, bytesOf_length]; omega)]
    refine Ev_cast (ih (i + 1) _ (by omega) (by omega) (by simp only [List.length_append, bytesOf_length]; omega)) ?_
    simp [addB, putL]
theorem spec_editB_ev {n1 n2 n3 : Int} {d : List Int} {l : List S86} (h : FineE n1 n2 n3 d l) : Ev (fun k => spec_l9Bytes.f k n1 n2 n3 d l) (editB n1 n2 n3 d l) := by
  have h1 := putL_len _ h.four
  have h2 := putL_len _ h.hd
  have h3 := putL_len _ h.one
  have hnd := h.nd
  have hnl := h.nl
  simp only [List.length_cons, List.length_nil] at h1 h3
  unfold spec_l9Bytes.f
  refine Ev.bind (l9Put_ev _ [] h.four (by simp)) ?_
  refine Ev.bind (l9Put_ev _ _ h.hd (by simp only [List.length_append, List.length_nil]; omega)) ?_
  refine Ev.bind (l9Put_ev _ _ h.one (by simp only [List.length_append, List.length_nil, List.length_cons]; omega)) ?_
  refine Ev_cast (l9Bytes_l0 l h.hl hnl l.length 0 _ (by omega) (by omega) (by simp only [List.length_append, List.length_nil]; omega)) (by simp [editB])
def editR (n1 n2 n3 : Int) (d : List Int) (l : List S86) : List Int × Bool := if goodE n1 n2 n3 d l = true then (editB n1 n2 n3 d l, true) else ([], false)
theorem editR_len (n1 n2 n3 : Int) (d : List Int) (l : List S86) : (editR n1 n2 n3 d l).1.length ≤ 10000 := by
  unfold editR
  by_cases hg : goodE n1 n2 n3 d l = true
  · rw [if_pos hg]; exact editB_len (.of_good hg)
  · rw [if_neg hg]; simp
theorem spec_editR (n1 n2 n3 : Int) (d : List Int) (l : List S86) (hd : d.length ≤ 1048576) (hl : l.length ≤ 1048576) : Ev (fun k => spec_EditBytes.f k n1 n2 n3 d l) (editR n1 n2 n3 d l) := by
  unfold spec_EditBytes.f editR
  refine Ev.bind (spec_goodE n1 n2 n3 d l hl hd) ?_
  by_cases hg : goodE n1 n2 n3 d l = true
  · simp only [if_pos hg]
    exact Ev.bind (spec_editB_ev (.of_good hg)) (Ev.now _)
  · simp only [if_neg hg]
    exact Ev.now _
theorem impl_editR (n1 n2 n3 : Int) (d : List Int) (l : List S86) (hd : d.length ≤ 1048576) (hl : l.length ≤ 1048576) : Ev (fun k => impl_EditBytes.f k n1 n2 n3 d l) (editR n1 n2 n3 d l) := by
  unfold impl_EditBytes.f editR
  refine Ev.bind (impl_goodE n1 n2 n3 d l hl hd) ?_
  by_cases hg : goodE n1 n2 n3 d l = true
  · simp only [if_pos hg]
    exact Ev.bind (impl_editB_ev (.of_good hg)) (Ev.now _)
  · simp only [if_neg hg]
    exact Ev.now _
theorem FnExactEditBytes : laws_FnExactEditBytes.Pure := by
  intro n1 n2 n3 d l _ _ _ hd hl
  have hm : maxLen ≤ 9223372036854775807 := by decide
  obtain ⟨z, hz, hz2⟩ := szEdit_ev n1 n2 n3 d l (by omega) (by omega) (fun x hx => ⟨by have := (hl.2 x hx).2.2.1; omega, by have := (hl.2 x hx).2.2.2.1; omega⟩)
  refine Ev.rounds ?_
  unfold laws_FnExactEditBytes.f
  refine Ev.bind hz ?_
  by_cases hn : z < 0
  · simp only [if_pos hn]; exact Ev.now _
  · simp only [if_neg hn]
    obtain ⟨hd2, hl2⟩ := hz2.resolve_left hn
    have ht := toEdit_ev n1 n2 n3 d l hd2 hl2
    have h1 : (l.map toA).length ≤ 1048576 := by rw [List.length_map]; exact hl2
    have e1 := spec_editR n1 n2 n3 d (l.map toA) hd2 h1
    have e2 := impl_editR n1 n2 n3 d (l.map toA) hd2 h1
    have hrl := editR_len n1 n2 n3 d (l.map toA)
    generalize editR n1 n2 n3 d (l.map toA) = r at e1 e2 hrl
    refine Ev.bind ht (Ev.bind e1 (Ev.bind ht (Ev.bind e2 ?_)))
    refine Ev.bind (eqByteS_same r.1 r.1 (by omega) rfl) ?_
    simp only [if_true, bne_self_eq_false]
    refine Ev_succ ?_
    simp only [laws_FnExactEditBytes.j0, Bool.false_eq_true, if_false]
    refine Ev.bind ht (Ev.bind (eqEdit_same _ _ _ _ _ hd2 h1) ?_)
    simp only [if_true]
    obtain ⟨m, hm1, hm2⟩ := markEdit_ev n1 n2 n3 d (l.map toA) hd2 h1
    refine Ev.bind hm1 ?_
    simp only [if_neg (show ¬ m.1 < 0 by omega)]
    refine Ev.bind (eqByteS_same r.1 r.1 (by omega) rfl) ?_
    simp only [if_true, bne_self_eq_false]
    refine Ev_succ ?_
    simp only [laws_FnExactEditBytes.j1, Bool.false_eq_true, if_false]
    refine Ev.bind (markByteS_ev r.1 1 (by omega) (by omega) (by omega)) ?_
    refine Ev.bind (heldByteS_ev 1 r.1.length (by omega) (by omega) (by omega)) ?_
    simp only [if_neg (show ¬ (1 : Int) + (r.1.length : Int) < 0 by omega), if_true]
    refine Ev.bind ht (Ev.bind e2 (Ev.bind (eqByteS_same r.1 r.1 (by omega) rfl) ?_))
    simp only [if_true, bne_self_eq_false]
    refine Ev_succ ?_
    simp only [laws_FnExactEditBytes.j2, Bool.false_eq_true, if_false]
    refine Ev.bind (heldByteS_ev 1 r.1.length (by omega) (by omega) (by omega)) ?_
    simp only [if_neg (show ¬ (1 : Int) + (r.1.length : Int) < 0 by omega), if_true]
    exact Ev.now _
end Go.Proofs.Ytefconminjiapaa.Pure
