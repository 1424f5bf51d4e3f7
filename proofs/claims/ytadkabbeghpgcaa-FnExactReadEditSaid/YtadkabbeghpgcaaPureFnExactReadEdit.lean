/- The law FnExactReadEdit answers true, for all bytes. -/
import Derived.Test.YtadkabbeghpgcaaPFnExactReadEditx11
set_option linter.unusedVariables false
set_option linter.unusedSimpArgs false
namespace Go.Proofs.Ytadkabbeghpgcaa.Pure
open Go.RowKit Go.Proofs.Ytadkabbeghpgcaa.PFnExactReadEdit Go.Proofs.YtadkabbeghpgcaaW Go.Proofs.YtadkabbeghpgcaaW.PrintWords Go.Proofs.YtadkabbeghpgcaaW.PrintLast Go.Proofs.YtadkabbeghpgcaaW.PrintMore
/-! ### base: rounds, numbers -/
theorem Ev_succ {α : Type} {g : Nat → Option α} {r : α} (h : Ev (fun k => g (k + 1)) r) : Ev g r := Ev.step (fun _ => rfl) h
theorem Ev_some {α : Type} {o : Option α} {r : α} (h : o = some r) : Ev (fun _ => o) r := ⟨0, fun _ _ => h⟩
theorem Ev_cast {α : Type} {g : Nat → Option α} {r q : α} (h : Ev g r) (e : r = q) : Ev g q := e ▸ h
theorem w64 {n : Int} (h : -9223372036854775808 ≤ n) (h' : n ≤ 9223372036854775807) : wrap64 n = n := by unfold wrap64; omega
theorem wf_i64 {n : Int} (h : (Lit.int .i64 n).wf = true) : -9223372036854775808 ≤ n ∧ n ≤ 9223372036854775807 := by
  simp only [Lit.wf, IntKind.min, IntKind.max, IntKind.signed, IntKind.bits, Bool.and_eq_true, decide_eq_true_eq, if_true] at h
  omega
theorem wf_u64 {n : Int} (h : (Lit.int .u64 n).wf = true) : 0 ≤ n ∧ n ≤ 18446744073709551615 := by
  simp only [Lit.wf, IntKind.min, IntKind.max, IntKind.signed, IntKind.bits, Bool.and_eq_true, decide_eq_true_eq, if_true] at h
  simp at h
  omega
theorem wf_u8 {n : Int} (h : (Lit.int .u8 n).wf = true) : 0 ≤ n ∧ n ≤ 255 := by
  simp only [Lit.wf, IntKind.min, IntKind.max, IntKind.signed, IntKind.bits, Bool.and_eq_true, decide_eq_true_eq, if_true] at h
  simp at h
  omega
theorem wrap_u64 (n : Int) : IntKind.u64.wrap n = n % 18446744073709551616 := by simp [IntKind.wrap, IntKind.bits, IntKind.signed]
theorem wrap_u32 (n : Int) : IntKind.u32.wrap n = n % 4294967296 := by simp [IntKind.wrap, IntKind.bits, IntKind.signed]
/-- A list of bytes. -/
def Bytes (l : List Int) : Prop := ∀ x ∈ l, 0 ≤ x ∧ x ≤ 255
theorem Bytes.wf {l : List Int} (h : ∀ x ∈ l, (Lit.int .u8 x).wf = true) : Bytes l := fun x hx => wf_u8 (h x hx)
theorem Bytes.nil : Bytes [] := fun x hx => by cases hx
theorem Bytes.app {a b : List Int} (h : Bytes a) (k : Bytes b) : Bytes (a ++ b) := fun x hx => by
  rcases List.mem_append.1 hx with h' | h'
  · exact h x h'
  · exact k x h'
theorem Bytes.one {x : Int} (h : 0 ≤ x) (h' : x ≤ 255) : Bytes [x] := fun y hy => (List.mem_singleton.1 hy) ▸ ⟨h, h'⟩
theorem Bytes.sub {a b : List Int} (h : Bytes a) (k : ∀ x ∈ b, x ∈ a) : Bytes b := fun x hx => h x (k x hx)
theorem Bytes.take {a : List Int} (h : Bytes a) (n : Nat) : Bytes (a.take n) := h.sub fun _ hx => List.mem_of_mem_take hx
theorem Bytes.drop {a : List Int} (h : Bytes a) (n : Nat) : Bytes (a.drop n) := h.sub fun _ hx => List.mem_of_mem_drop hx
theorem rd_lt {l : List Int} {i : Nat} (h : i < l.length) : rd l (i : Int) = l[i] := by simp [rd, h]
theorem Bytes.rd {l : List Int} (h : Bytes l) (i : Int) : 0 ≤ rd l i ∧ rd l i ≤ 255 := by
  unfold PrintWords.rd
  by_cases hi : i.toNat < l.length
  · rw [List.getD_eq_getElem?_getD, List.getElem?_eq_getElem hi]; exact h _ (List.getElem_mem hi)
  · rw [List.getD_eq_getElem?_getD, List.getElem?_eq_none (by omega)]; simp
theorem drop_cons {α : Type} {l : List α} {i : Nat} (h : i < l.length) : l.drop i = l[i] :: l.drop (i + 1) := List.drop_eq_getElem_cons h
theorem within_eq (a b c : Int) : impl_within.f a b c = some (decide (b ≤ a ∧ a ≤ c)) := by
  unfold impl_within.f
  by_cases h : a ≥ b
  · rw [if_pos h]; simp; intro; omega
  · rw [if_neg h]; simp; intro; omega
theorem l1In_eq (a b c : Int) : spec_l1In.f a b c = some (decide (b ≤ a ∧ a ≤ c)) := by
  unfold spec_l1In.f
  by_cases h : a ≥ b
  · rw [if_pos h]; simp; intro; omega
  · rw [if_neg h]; simp; intro; omega
/-! ### the laws' own words on bytes -/
theorem eqByteS_l0 (a b : List Int) (hl : a.length = b.length) (hb : a.length ≤ 4611686018427387904) :
    ∀ (d i : Nat), a.length - i = d → i ≤ a.length → Ev (fun k => laws_eqByteS.l0 k a b (i : Int)) (decide (a.drop i = b.drop i)) := by
  intro d
  induction d with
  | zero =>
    intro i hd hi
    refine Ev_succ ?_
    simp only [laws_eqByteS.l0]
    simp only [if_neg (show ¬ (i : Int) < (a.length : Int) by omega)]
    exact Ev_cast (Ev.now _) (by rw [List.drop_eq_nil_of_le (by omega), List.drop_eq_nil_of_le (by omega)]; simp)
  | succ d ih =>
    intro i hd hi
    refine Ev_succ ?_
    simp only [laws_eqByteS.l0]
    simp only [if_pos (show (i : Int) < (a.length : Int) by omega), if_pos (show 0 ≤ (i : Int) by omega), if_pos (show (i : Int) < (b.length : Int) by omega)]
    rw [rd_lt (by omega), rd_lt (by omega), w64 (by omega) (by omega), drop_cons (l := a) (by omega), drop_cons (l := b) (i := i) (by omega)]
    by_cases e : a[i]'(by omega) = b[i]'(by omega)
    · simp only [if_pos e]
      exact Ev_cast (ih (i + 1) (by omega) (by omega)) (decide_eq_decide.2 (by rw [List.cons.injEq]; exact ⟨fun h => ⟨e, h⟩, fun h => h.2⟩))
    · simp only [if_neg e]
      exact Ev_cast (Ev.now _) (Eq.symm (decide_eq_false (by rw [List.cons.injEq]; exact fun h => e h.1)))
theorem eqByteS_ev (a b : List Int) (ha : a.length ≤ 4611686018427387904) : Ev (fun k => laws_eqByteS.f k a b) (decide (a = b)) := by
  unfold laws_eqByteS.f
  by_cases h : a.length = b.length
  · simp only [if_pos (show (a.length : Int) = (b.length : Int) by omega)]
    exact eqByteS_l0 a b h ha a.length 0 (by omega) (by omega)
  · simp only [if_neg (show ¬ (a.length : Int) = (b.length : Int) by omega)]
    exact Ev_cast (Ev.now _) (by simp; intro e; exact h (by rw [e]))
theorem eqByteS_same (a b : List Int) (ha : a.length ≤ 4611686018427387904) (e : a = b) : Ev (fun k => laws_eqByteS.f k a b) true := Ev_cast (eqByteS_ev a b ha) (by simp [e])
theorem toByteS_l0 (l : List Int) : ∀ (d i : Nat) (o : List Int), l.length - i = d → i ≤ l.length → l.length ≤ 1152921504606846976 → o.length = l.length → o.take i = l.take i →
    Ev (fun k => laws_toByteS.l0 k l o (i : Int)) l := by
  intro d
  induction d with
  | zero =>
    intro i o hd hi hl ho ht
    refine Ev_succ ?_
    simp only [laws_toByteS.l0]
    simp only [if_neg (show ¬ (i : Int) < (l.length : Int) by omega)]
    exact Ev_cast (Ev.now _) (by rw [List.take_of_length_le (by omega), List.take_of_length_le (by omega)] at ht; exact ht)
  | succ d ih =>
    intro i o hd hi hl ho ht
    refine Ev_succ ?_
    simp only [laws_toByteS.l0]
    simp only [if_pos (show (i : Int) < (l.length : Int) by omega), if_pos (show 0 ≤ (i : Int) by omega), if_pos (show (i : Int) < (o.length : Int) by omega)]
    rw [rd_lt (by omega), w64 (by omega) (by omega)]
    refine ih (i + 1) _ (by omega) (by omega) hl (by simpa using ho) ?_
    apply List.ext_getElem?
    intro j
    rw [List.getElem?_take, List.getElem?_take]
    by_cases h1 : j < i
    · have := congrArg (fun x => x[j]?) ht
      simp only [List.getElem?_take, if_pos h1] at this
      rw [if_pos (by omega), if_pos (by omega), List.getElem?_set]
      simp only [Int.toNat_natCast]
      rw [if_neg (by omega), this]
    · by_cases h2 : j = i
      · subst h2
        rw [if_pos (by omega), if_pos (by omega)]
        simp [show j < l.length by omega, show j < o.length by omega]
      · rw [if_neg (by omega), if_neg (by omega)]
theorem toByteS_ev (l : List Int) (hl : l.length ≤ 281474976710656) : Ev (fun k => laws_toByteS.f k l) l := by
  unfold laws_toByteS.f
  simp only [if_pos (show 0 ≤ (l.length : Int) by omega), Int.toNat_natCast, if_pos hl]
  exact toByteS_l0 l l.length 0 _ (by omega) (by omega) (by omega) (by simp) (by simp)
/-- What a list reads once it was marked from m on. -/
def markedFrom (m : Int) : Nat → List Int
  | 0 => []
  | n + 1 => (m % 256) :: markedFrom (m + 1) n
theorem markedFrom_length (n : Nat) : ∀ m, (markedFrom m n).length = n := by
  induction n with
  | zero => intro m; rfl
  | succ n ih => intro m; simp [markedFrom, ih]
theorem markByteS_l0 (m : Int) : ∀ (d i : Nat) (l : List Int), l.length - i = d → i ≤ l.length → l.length ≤ 1152921504606846976 → 0 ≤ m → m ≤ 1152921504606846976 + i →
    Ev (fun k => laws_markByteS.l0 k l m (i : Int)) (m + d, l.take i ++ markedFrom m d) := by
  intro d
  induction d generalizing m with
  | zero =>
    intro i l hd hi hl h0 hm
    refine Ev_succ ?_
    simp only [laws_markByteS.l0]
    simp only [if_neg (show ¬ (i : Int) < (l.length : Int) by omega)]
    exact Ev_cast (Ev.now _) (by rw [List.take_of_length_le (by omega)]; simp [markedFrom])
  | succ d ih =>
    intro i l hd hi hl h0 hm
    refine Ev_succ ?_
    simp only [laws_markByteS.l0]
    simp only [if_pos (show (i : Int) < (l.length : Int) by omega), if_pos (show 0 ≤ (i : Int) by omega)]
    rw [w64 (n := m + 1) (by omega) (by omega), w64 (by omega) (by omega)]
    refine Ev_cast (ih (m + 1) (i + 1) (l.set i (m % 256)) (by simp; omega) (by simp; omega) (by simpa using hl) (by omega) (by omega)) ?_
    refine Prod.ext (by simp; omega) ?_
    show (l.set i (m % 256)).take (i + 1) ++ markedFrom (m + 1) d = l.take i ++ markedFrom m (d + 1)
    have : (l.set i (m % 256)).take (i + 1) = l.take i ++ [m % 256] := by
      apply List.ext_getElem?
      intro j
      rw [List.getElem?_take, List.getElem?_append, List.getElem?_set]
      have : (l.take i).length = i := by simp; omega
      rw [this]
      by_cases h1 : j < i
      · rw [if_pos (by omega), if_neg (by omega), if_pos h1, List.getElem?_take, if_pos h1]
      · by_cases h2 : j = i
        · subst h2; simp; omega
        · rw [if_neg (by omega), if_neg h1]; simp; omega
    rw [this]; simp [markedFrom]
theorem markByteS_ev (l : List Int) (m : Int) (hl : l.length ≤ 1152921504606846976) (h0 : 0 ≤ m) (hm : m ≤ 1152921504606846976) : Ev (fun k => laws_markByteS.f k l m) (m + l.length, markedFrom m l.length) := by
  unfold laws_markByteS.f
  exact Ev_cast (markByteS_l0 m l.length 0 l (by omega) (by omega) hl h0 (by omega)) (by simp)
/-! ### the laws' own words on bytes -/
theorem eqIntS_l0 (a b : List Int) (hl : a.length = b.length) (hb : a.length ≤ 4611686018427387904) :
    ∀ (d i : Nat), a.length - i = d → i ≤ a.length → Ev (fun k => laws_eqIntS.l0 k a b (i : Int)) (decide (a.drop i = b.drop i)) := by
  intro d
  induction d with
  | zero =>
    intro i hd hi
    refine Ev_succ ?_
    simp only [laws_eqIntS.l0]
    simp only [if_neg (show ¬ (i : Int) < (a.length : Int) by omega)]
    exact Ev_cast (Ev.now _) (by rw [List.drop_eq_nil_of_le (by omega), List.drop_eq_nil_of_le (by omega)]; simp)
  | succ d ih =>
    intro i hd hi
    refine Ev_succ ?_
    simp only [laws_eqIntS.l0]
    simp only [if_pos (show (i : Int) < (a.length : Int) by omega), if_pos (show 0 ≤ (i : Int) by omega), if_pos (show (i : Int) < (b.length : Int) by omega)]
    rw [rd_lt (by omega), rd_lt (by omega), w64 (by omega) (by omega), drop_cons (l := a) (by omega), drop_cons (l := b) (i := i) (by omega)]
    by_cases e : a[i]'(by omega) = b[i]'(by omega)
    · simp only [if_pos e]
      exact Ev_cast (ih (i + 1) (by omega) (by omega)) (decide_eq_decide.2 (by rw [List.cons.injEq]; exact ⟨fun h => ⟨e, h⟩, fun h => h.2⟩))
    · simp only [if_neg e]
      exact Ev_cast (Ev.now _) (Eq.symm (decide_eq_false (by rw [List.cons.injEq]; exact fun h => e h.1)))
theorem eqIntS_ev (a b : List Int) (ha : a.length ≤ 4611686018427387904) : Ev (fun k => laws_eqIntS.f k a b) (decide (a = b)) := by
  unfold laws_eqIntS.f
  by_cases h : a.length = b.length
  · simp only [if_pos (show (a.length : Int) = (b.length : Int) by omega)]
    exact eqIntS_l0 a b h ha a.length 0 (by omega) (by omega)
  · simp only [if_neg (show ¬ (a.length : Int) = (b.length : Int) by omega)]
    exact Ev_cast (Ev.now _) (by simp; intro e; exact h (by rw [e]))
theorem eqIntS_same (a b : List Int) (ha : a.length ≤ 4611686018427387904) (e : a = b) : Ev (fun k => laws_eqIntS.f k a b) true := Ev_cast (eqIntS_ev a b ha) (by simp [e])
/-- What a list of whole numbers reads once it was marked from m on. -/
def imarkedFrom (m : Int) : Nat → List Int
  | 0 => []
  | n + 1 => m :: imarkedFrom (m + 1) n
theorem imarkedFrom_length (n : Nat) : ∀ m, (imarkedFrom m n).length = n := by
  induction n with
  | zero => intro m; rfl
  | succ n ih => intro m; simp [imarkedFrom, ih]
theorem markIntS_l0 (m : Int) : ∀ (d i : Nat) (l : List Int), l.length - i = d → i ≤ l.length → l.length ≤ 1152921504606846976 → 0 ≤ m → m ≤ 1152921504606846976 + i →
    Ev (fun k => laws_markIntS.l0 k l m (i : Int)) (m + d, l.take i ++ imarkedFrom m d) := by
  intro d
  induction d generalizing m with
  | zero =>
    intro i l hd hi hl h0 hm
    refine Ev_succ ?_
    simp only [laws_markIntS.l0]
    simp only [if_neg (show ¬ (i : Int) < (l.length : Int) by omega)]
    exact Ev_cast (Ev.now _) (by rw [List.take_of_length_le (by omega)]; simp [imarkedFrom])
  | succ d ih =>
    intro i l hd hi hl h0 hm
    refine Ev_succ ?_
    simp only [laws_markIntS.l0]
    simp only [if_pos (show (i : Int) < (l.length : Int) by omega), if_pos (show 0 ≤ (i : Int) by omega)]
    rw [w64 (n := m + 1) (by omega) (by omega), w64 (by omega) (by omega)]
    refine Ev_cast (ih (m + 1) (i + 1) (l.set i (m)) (by simp; omega) (by simp; omega) (by simpa using hl) (by omega) (by omega)) ?_
    refine Prod.ext (by simp; omega) ?_
    show (l.set i (m)).take (i + 1) ++ imarkedFrom (m + 1) d = l.take i ++ imarkedFrom m (d + 1)
    have : (l.set i (m)).take (i + 1) = l.take i ++ [m] := by
      apply List.ext_getElem?
      intro j
      rw [List.getElem?_take, List.getElem?_append, List.getElem?_set]
      have : (l.take i).length = i := by simp; omega
      rw [this]
      by_cases h1 : j < i
      · rw [if_pos (by omega), if_neg (by omega), if_pos h1, List.getElem?_take, if_pos h1]
      · by_cases h2 : j = i
        · subst h2; simp; omega
        · rw [if_neg (by omega), if_neg h1]; simp; omega
    rw [this]; simp [imarkedFrom]
theorem markIntS_ev (l : List Int) (m : Int) (hl : l.length ≤ 1152921504606846976) (h0 : 0 ≤ m) (hm : m ≤ 1152921504606846976) : Ev (fun k => laws_markIntS.f k l m) (m + l.length, imarkedFrom m l.length) := by
  unfold laws_markIntS.f
  exact Ev_cast (markIntS_l0 m l.length 0 l (by omega) (by omega) hl h0 (by omega)) (by simp)
theorem heldIntS_l0 : ∀ (n : Nat) (m : Int) (i : Nat) (p : List Int), p.length = i → i + n ≤ 1152921504606846976 → 0 ≤ m → m ≤ 1152921504606846976 + i →
    Ev (fun k => laws_heldIntS.l0 k (p ++ imarkedFrom m n) m (i : Int)) (m + n) := by
  intro n
  induction n with
  | zero =>
    intro m i p hp hl h0 hm
    refine Ev_succ ?_
    simp only [laws_heldIntS.l0]
    simp only [imarkedFrom, List.append_nil, if_neg (show ¬ (i : Int) < (p.length : Int) by omega)]
    exact Ev_cast (Ev.now _) (by simp)
  | succ n ih =>
    intro m i p hp hl h0 hm
    refine Ev_succ ?_
    simp only [laws_heldIntS.l0]
    have hlen : (p ++ imarkedFrom m (n + 1)).length = i + n + 1 := by rw [List.length_append, imarkedFrom_length]; omega
    have hr : rd (p ++ imarkedFrom m (n + 1)) (i : Int) = m := by
      rw [rd_lt (by omega)]; simp [imarkedFrom, hp]
    simp only [if_pos (show (i : Int) < ((p ++ imarkedFrom m (n + 1)).length : Int) by omega), if_pos (show 0 ≤ (i : Int) by omega), hr, if_true]
    rw [w64 (n := m + 1) (by omega) (by omega), w64 (by omega) (by omega)]
    have e : p ++ imarkedFrom m (n + 1) = (p ++ [m]) ++ imarkedFrom (m + 1) n := by simp [imarkedFrom]
    rw [e]
    exact Ev_cast (ih (m + 1) (i + 1) (p ++ [m]) (by simp [hp]) (by omega) (by omega) (by omega)) (by omega)
theorem heldIntS_ev (m : Int) (n : Nat) (hl : n ≤ 1152921504606846976) (h0 : 0 ≤ m) (hm : m ≤ 1152921504606846976) : Ev (fun k => laws_heldIntS.f k (imarkedFrom m n) m) (m + n) := by
  unfold laws_heldIntS.f
  exact heldIntS_l0 n m 0 [] rfl (by omega) h0 (by omega)
/-! ### marks in texts -/
theorem markText_l0 : ∀ (n : Nat) (s : ByteArray), s.size + n ≤ 4611686018427387904 → ∃ r, Ev (fun k => laws_markText.l0 k (n : Int) s) r := by
  intro n
  induction n using Nat.strongRecOn with
  | ind n ih =>
    intro s h
    by_cases h0 : 0 < n
    · have hsz : ∀ x : Int, (strOfNums [x]).size = 1 := fun x => by simp [strOfNums]; rfl
      obtain ⟨r, hr⟩ := ih (n / 10) (by omega) (strOfNums [(wrap64 (48 + Int.tmod (n : Int) 10)) % 256] ++ s) (by rw [ByteArray.size_append, hsz]; omega)
      refine ⟨r, Ev_succ ?_⟩
      simp only [laws_markText.l0]
      simp only [if_pos (show (n : Int) > 0 by omega), Option.bind_some]
      simp only [hsz, if_pos (show 1 + s.size ≤ 9223372036854775807 by omega)]
      rw [show wrap64 (Int.tdiv (n : Int) 10) = ((n / 10 : Nat) : Int) by rw [Int.tdiv_eq_ediv_of_nonneg (by omega), w64 (by omega) (by omega)]; omega]
      exact hr
    · refine ⟨(⟨#[109]⟩ : ByteArray) ++ s, Ev_succ ?_⟩
      simp only [laws_markText.l0]
      simp only [if_neg (show ¬ (n : Int) > 0 by omega), if_pos (show 1 + s.size ≤ 9223372036854775807 by omega)]
      exact Ev.now _
theorem markText_ev (n : Nat) (h : n ≤ 1152921504606846976) : ∃ r, Ev (fun k => laws_markText.f k (n : Int)) r := by
  unfold laws_markText.f
  by_cases h0 : (n : Int) ≤ 0
  · simp only [if_pos h0]
    exact ⟨_, Ev.now _⟩
  · simp only [if_neg h0]
    exact markText_l0 n _ (by show 0 + n ≤ _; omega)
/-! ### PutVar -/
def putVar (n : Nat) : List Int := if 127 < n then ((n % 128 + 128 : Nat) : Int) :: putVar (n / 128) else [(n : Int)]
termination_by n
decreasing_by omega
theorem putVar_small {n : Nat} (h : n ≤ 127) : putVar n = [(n : Int)] := by rw [putVar, if_neg (by omega)]
theorem putVar_big {n : Nat} (h : 127 < n) : putVar n = ((n % 128 + 128 : Nat) : Int) :: putVar (n / 128) := by rw [putVar, if_pos h]
theorem putVar_length_le : ∀ (m n : Nat), n < 128 ^ (m + 1) → (putVar n).length ≤ m + 1 := by
  intro m
  induction m with
  | zero => intro n h; rw [putVar_small (by simpa using Nat.le_of_lt_succ h)]; simp
  | succ m ih =>
    intro n h
    by_cases hn : 127 < n
    · rw [putVar_big hn]
      have := ih (n / 128) (by rw [Nat.div_lt_iff_lt_mul (by omega), ← Nat.pow_succ]; exact h)
      simp; omega
    · rw [putVar_small (by omega)]; simp
theorem putVar_length_64 {n : Nat} (h : n ≤ 18446744073709551615) : (putVar n).length ≤ 10 := putVar_length_le 9 n (by omega)
theorem putVar_bytes : ∀ n, Bytes (putVar n) := by
  intro n
  induction n using Nat.strongRecOn with
  | ind n ih =>
    by_cases hn : 127 < n
    · rw [putVar_big hn]
      intro x hx
      rcases List.mem_cons.1 hx with rfl | hx
      · omega
      · exact ih _ (by omega) x hx
    · rw [putVar_small (by omega)]; exact Bytes.one (by omega) (by omega)
theorem putVar_ne_nil (n : Nat) : putVar n ≠ [] := by
  by_cases hn : 127 < n
  · rw [putVar_big hn]; simp
  · rw [putVar_small (by omega)]; simp
theorem putVar_pos (n : Nat) : 1 ≤ (putVar n).length := by
  have := putVar_ne_nil n
  cases h : putVar n with
  | nil => exact absurd h this
  | cons _ _ => simp
theorem or128 : ∀ x : Fin 256, Go.bits .or .u8 (x.val : Int) 128 = ((x.val % 128 + 128 : Nat) : Int) := by decide +kernel
theorem or128_nat (n : Nat) : Go.bits .or .u8 ((n : Int) % 256) 128 = ((n % 128 + 128 : Nat) : Int) := by
  have := or128 ⟨n % 256, by omega⟩
  simp only at this
  rw [show ((n : Int) % 256) = ((n % 256 : Nat) : Int) by omega, this]
  omega
theorem impl_PutVar_l0 : ∀ (n : Nat) (acc : List Int), acc.length + (putVar n).length ≤ 140737488355328 → Ev (fun k => impl_PutVar.l0 k (n : Int) acc) (acc ++ putVar n) := by
  intro n
  induction n using Nat.strongRecOn with
  | ind n ih =>
    intro acc h
    refine Ev_succ ?_
    simp only [impl_PutVar.l0]
    have hp := putVar_pos n
    by_cases hn : 127 < n
    · simp only [if_pos (show (n : Int) > 127 by omega), if_pos (show acc.length < 140737488355328 by omega)]
      rw [or128_nat, show (n : Int) / 128 = ((n / 128 : Nat) : Int) by omega]
      rw [putVar_big hn] at h
      refine Ev_cast (ih (n / 128) (by omega) _ (by simp at h ⊢; omega)) ?_
      rw [putVar_big hn]; simp
    · simp only [if_neg (show ¬ (n : Int) > 127 by omega), if_pos (show acc.length < 140737488355328 by omega)]
      rw [putVar_small (by omega), show (n : Int) % 256 = n by omega]
      exact Ev.now _
theorem impl_PutVar_ev (n : Nat) (h : n ≤ 18446744073709551615) : Ev (fun k => impl_PutVar.f k (n : Int)) (putVar n) := by
  unfold impl_PutVar.f
  have := putVar_length_64 h
  exact Ev_cast (impl_PutVar_l0 n [] (by simp; omega)) (by simp)
/-! ### texts as lists of bytes -/
theorem pw_toList_loop (s : ByteArray) : ∀ (d i : Nat) (r : List UInt8), s.size - i = d → i ≤ s.size → ByteArray.toList.loop s i r = r.reverse ++ s.data.toList.drop i := by
  intro d
  induction d with
  | zero =>
    intro i r hd hi
    rw [ByteArray.toList.loop, if_neg (by omega), List.drop_eq_nil_of_le (by simp; show s.data.size ≤ i; have : s.size = s.data.size := rfl; omega)]
    simp
  | succ d ih =>
    intro i r hd hi
    have hs : s.size = s.data.size := rfl
    rw [ByteArray.toList.loop, if_pos (by omega), ih (i + 1) _ (by omega) (by omega)]
    have : s.data.toList.drop i = s.get! i :: s.data.toList.drop (i + 1) := by
      rw [List.drop_eq_getElem_cons (by simp; omega)]
      congr 1
      simp [ByteArray.get!]
      rw [getElem!_pos s.data i (by omega)]
    rw [this]; simp
theorem toList_data (s : ByteArray) : s.toList = s.data.toList := by
  unfold ByteArray.toList
  rw [pw_toList_loop s s.size 0 [] (by omega) (by omega)]
  simp
theorem strOfNums_list (l : List Int) : (strOfNums l).toList = l.map fun n => UInt8.ofNat n.toNat := by
  rw [toList_data]; simp [strOfNums]
theorem bytes_map_inj : ∀ (a b : List Int), Bytes a → Bytes b → (a.map fun n => UInt8.ofNat n.toNat) = (b.map fun n => UInt8.ofNat n.toNat) → a = b := by
  intro a
  induction a with
  | nil => intro b _ _ h; cases b with
    | nil => rfl
    | cons _ _ => simp at h
  | cons x a ih =>
    intro b ha hb h
    cases b with
    | nil => simp at h
    | cons y b =>
      simp only [List.map_cons, List.cons.injEq] at h
      have h1 := ha x (by simp)
      have h2 := hb y (by simp)
      have h3 := congrArg UInt8.toNat h.1
      simp only [UInt8.toNat_ofNat'] at h3
      rw [ih b (fun z hz => ha z (by simp [hz])) (fun z hz => hb z (by simp [hz])) h.2]
      congr 1
      omega
theorem strOfNums_eq (a b : List Int) (ha : Bytes a) (hb : Bytes b) : ((strOfNums a).toList == (strOfNums b).toList) = decide (a = b) := by
  rw [strOfNums_list, strOfNums_list]
  by_cases h : a = b
  · subst h; simp
  · rw [decide_eq_false h, beq_eq_false_iff_ne]
    exact fun e => h (bytes_map_inj a b ha hb e)
/-! ### ReadVar -/
def vval : List Int → Nat
  | [] => 0
  | c :: t => (c % 128).toNat + 128 * vval t
theorem vval_snoc (p : List Int) (c : Int) : vval (p ++ [c]) = vval p + 128 ^ p.length * (c % 128).toNat := by
  induction p with
  | nil => simp [vval]
  | cons a p ih => simp only [List.cons_append, vval, ih, List.length_cons, Nat.pow_succ]; rw [Nat.mul_add, Nat.mul_comm (128 ^ p.length) 128, Nat.mul_assoc]; omega
theorem vval_lt (p : List Int) : vval p < 128 ^ p.length := by
  induction p with
  | nil => simp [vval]
  | cons a p ih =>
    simp only [vval, List.length_cons, Nat.pow_succ]
    have : (a % 128).toNat < 128 := by omega
    omega
theorem vval_putVar : ∀ n : Nat, vval (putVar n) = n := by
  intro n
  induction n using Nat.strongRecOn with
  | ind n ih =>
    by_cases h : 127 < n
    · rw [putVar_big h]; simp only [vval]; rw [ih _ (by omega)]; omega
    · rw [putVar_small (by omega)]; simp only [vval]; omega
/-- The bytes but the last have their eighth bit set. -/
def Conts (p : List Int) : Prop := ∀ x ∈ p, 128 ≤ x ∧ x ≤ 255
theorem putVar_vval : ∀ (p : List Int) (c : Int), Conts p → 0 ≤ c → c < 128 → (p = [] ∨ c ≠ 0) → putVar (vval (p ++ [c])) = p ++ [c] := by
  intro p
  induction p with
  | nil => intro c _ h0 h1 _; rw [List.nil_append, putVar_small (by simp [vval]; omega)]; simp [vval]; omega
  | cons a p ih =>
    intro c hp h0 h1 hc
    have hc' : c ≠ 0 := by rcases hc with h | h
                           · cases h
                           · exact h
    have ha := hp a (by simp)
    have hi := ih c (fun x hx => hp x (by simp [hx])) h0 h1 (.inr hc')
    have hpos : 1 ≤ vval (p ++ [c]) := by
      rw [vval_snoc]
      have h3 : 0 < 128 ^ p.length * (c % 128).toNat := Nat.mul_pos (Nat.pow_pos (by decide)) (by omega)
      omega
    have e1 : vval (a :: (p ++ [c])) = (a % 128).toNat + 128 * vval (p ++ [c]) := rfl
    rw [List.cons_append, e1, putVar_big (by omega)]
    rw [show ((a % 128).toNat + 128 * vval (p ++ [c])) / 128 = vval (p ++ [c]) by omega, hi]
    congr 1
    omega
theorem putVar_last : ∀ (n : Nat) (p : List Int) (c : Int), putVar n = p ++ [c] → (p = [] ∨ c ≠ 0) := by
  intro n
  induction n using Nat.strongRecOn with
  | ind n ih =>
    intro p c h
    by_cases hn : 127 < n
    · rw [putVar_big hn] at h
      cases p with
      | nil => exact .inl rfl
      | cons a p =>
        rw [List.cons_append] at h
        injection h with h1 h2
        rcases ih (n / 128) (by omega) p c h2 with rfl | h3
        · refine .inr ?_
          have h4 : vval (putVar (n / 128)) = n / 128 := vval_putVar _
          rw [h2] at h4
          simp [vval] at h4
          omega
        · exact .inr h3
    · rw [putVar_small (by omega)] at h
      cases p with
      | nil => exact .inl rfl
      | cons a p =>
        have := congrArg List.length h
        simp at this
/-- What a number's reading gives: from the bytes that were met, and those to come. -/
def readVar (at_ : Nat) : List Int → List Int → Int × Int × Bool
  | _, [] => (0, 0, false)
  | p, c :: t => if 10 ≤ p.length then (0, 0, false) else if c < 128 then (if (p = [] ∨ c ≠ 0) ∧ (p.length = 9 → c ≤ 1) then ((vval (p ++ [c]) : Int), (at_ : Int) + p.length + 1, true) else (0, 0, false)) else readVar at_ (p ++ [c]) t
theorem readVar_ten (at_ : Nat) (p t : List Int) (h : 10 ≤ p.length) : readVar at_ p t = (0, 0, false) := by
  cases t with
  | nil => rfl
  | cons c t => simp only [readVar, if_pos h]
theorem and127 : ∀ x : Fin 256, Go.bits .and .u8 (x.val : Int) 127 = ((x.val % 128 : Nat) : Int) := by decide +kernel
theorem and127_int {x : Int} (h : 0 ≤ x) (h' : x ≤ 255) : Go.bits .and .u8 x 127 = x % 128 := by
  have := and127 ⟨x.toNat, by omega⟩
  simp only at this
  rw [show ((x.toNat : Nat) : Int) = x by omega] at this
  rw [this]; omega
theorem wraps_u64 (n : Int) (h₀ : 0 ≤ n) (h₁ : n < 2 ^ 64) : IntKind.u64.wrap n = n := by rw [wrap_u64]; omega
theorem or_add_u64 (i : Nat) (hi : i ≤ 64) (x y : Int) (hx : 0 ≤ x) (hx' : x % 2 ^ i = 0) (hx2 : x < 2 ^ 64) (hy : 0 ≤ y) (hy' : y < 2 ^ i) : Go.bits .or .u64 y x = y + x := by
  have h2 : (2 : Int) ^ i ≤ 2 ^ 64 := by
    have := Nat.pow_le_pow_right (n := 2) (by decide) hi
    exact_mod_cast this
  have e := bits_join .u64 64 (by decide) wraps_u64 i x y hx hx' hx2 hy hy' (by omega)
  obtain ⟨a, rfl⟩ := Int.eq_ofNat_of_zero_le hx
  obtain ⟨b, rfl⟩ := Int.eq_ofNat_of_zero_le hy
  have ha : a < 2 ^ 64 := by exact_mod_cast hx2
  have hb : b < 2 ^ 64 := by
    have : (b : Int) < 2 ^ 64 := by omega
    exact_mod_cast this
  rw [(bits_nat .u64 64 (by decide) wraps_u64 b a hb ha).2, Nat.or_comm]
  rw [(bits_nat .u64 64 (by decide) wraps_u64 a b ha hb).2] at e
  rw [e]; omega
theorem two_pow_7 (j : Nat) : (2 : Int) ^ (7 * j) = 128 ^ j := by rw [Int.pow_mul]; rfl
/-- One more byte's seven bits. -/
theorem step_bits (p : List Int) (c : Int) (h0 : 0 ≤ c) (h1 : c ≤ 255) (hl : p.length ≤ 9) :
    Go.bits .or .u64 (vval p : Int) (shl .u64 (IntKind.u64.wrap (Go.bits .and .u8 c 127)) (7 * (p.length : Int))) = ((vval (p ++ [c]) : Nat) : Int) % 18446744073709551616 ∧ (p.length ≤ 8 → vval (p ++ [c]) < 9223372036854775808) := by
  have hv := vval_lt p
  have hp9 : (128 : Nat) ^ p.length ≤ 128 ^ 9 := Nat.pow_le_pow_right (by decide) hl
  have hc : (c % 128).toNat < 128 := by omega
  have hsn := vval_snoc p c
  refine ⟨?_, fun h8 => ?_⟩
  · rw [and127_int h0 h1, wraps_u64 _ (by omega) (by omega)]
    unfold shl
    rw [show (min (7 * (p.length : Int)).toNat IntKind.u64.bits) = 7 * p.length by simp [IntKind.bits]; omega, two_pow_7, wrap_u64]
    have e2 : ((128 : Nat) ^ p.length * (c % 128).toNat : Nat) = ((c % 128) * 128 ^ p.length : Int) := by
      push_cast
      rw [Int.mul_comm]
      congr 1
      omega
    rw [← e2, hsn]
    generalize hQ : 128 ^ p.length * (c % 128).toNat = Q
    have hd : Q % 128 ^ p.length = 0 := by rw [← hQ]; simp
    have hdv : (18446744073709551616 : Nat) % 128 ^ p.length = 0 := by
      have h7 : p.length = 0 ∨ p.length = 1 ∨ p.length = 2 ∨ p.length = 3 ∨ p.length = 4 ∨ p.length = 5 ∨ p.length = 6 ∨ p.length = 7 ∨ p.length = 8 ∨ p.length = 9 := by omega
      rcases h7 with h | h | h | h | h | h | h | h | h | h <;> rw [h]
    have hQd : (Q % 18446744073709551616) % 128 ^ p.length = 0 := by
      have : 128 ^ p.length ∣ Q % 18446744073709551616 := (Nat.dvd_mod_iff (Nat.dvd_of_mod_eq_zero hdv)).2 (Nat.dvd_of_mod_eq_zero hd)
      exact Nat.mod_eq_zero_of_dvd this
    have hv64 : vval p < 9223372036854775808 := Nat.lt_of_lt_of_le hv (by simpa using hp9)
    rw [show ((Q : Int) % 18446744073709551616) = ((Q % 18446744073709551616 : Nat) : Int) by omega]
    rw [or_add_u64 (7 * p.length) (by omega) _ _ (by omega) (by rw [two_pow_7]; exact_mod_cast hQd) (by omega) (by omega) (by rw [two_pow_7]; exact_mod_cast hv)]
    have hlt : vval p + Q % 18446744073709551616 < 18446744073709551616 := by
      -- both are below, and Q % 2^64 is a multiple of 128^len, 2^64 too
      have h1' : Q % 18446744073709551616 < 18446744073709551616 := Nat.mod_lt _ (by decide)
      obtain ⟨a, ha⟩ := Nat.dvd_of_mod_eq_zero hQd
      obtain ⟨b, hb⟩ := Nat.dvd_of_mod_eq_zero hdv
      have hab : a < b := by
        rw [ha, hb] at h1'
        exact Nat.lt_of_mul_lt_mul_left h1'
      have : 128 ^ p.length * a + 128 ^ p.length ≤ 128 ^ p.length * b := by
        rw [← Nat.mul_succ]; exact Nat.mul_le_mul_left _ hab
      omega
    omega
  · have h9 : (p ++ [c]).length ≤ 9 := by simp; omega
    have := vval_lt (p ++ [c])
    have h2 : (128 : Nat) ^ (p ++ [c]).length ≤ 128 ^ 9 := Nat.pow_le_pow_right (by decide) h9
    have : vval (p ++ [c]) < 128 ^ 9 := Nat.lt_of_lt_of_le this h2
    simpa using this
theorem spec_l1Var_l0 (l : List Int) (hb : Bytes l) (hl : l.length ≤ 281474976710656) (at_ : Nat) : ∀ (t p : List Int), l.drop at_ = p ++ t → at_ ≤ l.length → p.length ≤ 10 → Conts p →
    Ev (fun k => spec_l1Var.l0 k l (at_ : Int) (if p.length ≤ 9 then (vval p : Int) else 0) (p.length : Int)) ((readVar at_ p t).1, (readVar at_ p t).2.1) ∨ p.length = 10 := by
  intro t
  induction t with
  | nil =>
    intro p hd ha hp hcp
    by_cases h10 : p.length = 10
    · exact .inr h10
    refine .inl (Ev_succ ?_)
    have hlen := congrArg List.length hd
    simp at hlen
    simp only [spec_l1Var.l0, if_pos (show (p.length : Int) < 10 by omega)]
    rw [w64 (by omega) (by omega), decide_eq_false (by omega)]
    refine Ev_succ ?_
    simp only [spec_l1Var.j1]
    exact Ev.now _
  | cons c t ih =>
    intro p hd ha hp hcp
    by_cases h10 : p.length = 10
    · exact .inr h10
    refine .inl (Ev_succ ?_)
    have hlen := congrArg List.length hd
    simp at hlen
    have hrd : rd l ((at_ : Int) + p.length) = c := by
      have : (l.drop at_)[p.length]? = some c := by rw [hd]; simp
      rw [List.getElem?_drop] at this
      have h3 : at_ + p.length < l.length := by omega
      rw [show ((at_ : Int) + p.length) = ((at_ + p.length : Nat) : Int) by omega, rd_lt h3]
      rw [List.getElem?_eq_getElem h3] at this
      exact Option.some.inj this
    have hcm : c ∈ l := by
      have : c ∈ l.drop at_ := by rw [hd]; simp
      exact List.mem_of_mem_drop this
    have hcb := hb c hcm
    simp only [spec_l1Var.l0, if_pos (show (p.length : Int) < 10 by omega), if_pos (show p.length ≤ 9 by omega)]
    rw [w64 (by omega) (by omega), decide_eq_true (by omega)]
    refine Ev_succ ?_
    simp only [spec_l1Var.j1, if_true]
    rw [w64 (by omega) (by omega)]
    simp only [if_pos (show 0 ≤ (at_ : Int) + p.length by omega), if_pos (show (at_ : Int) + p.length < (l.length : Int) by omega), hrd]
    obtain ⟨sb, s8⟩ := step_bits p c hcb.1 hcb.2 (by omega)
    have go : ∀ b : Bool, b = decide (p.length = 9 ∧ c > 1) → Ev (fun k => spec_l1Var.j2 k l (at_ : Int) (vval p : Int) (p.length : Int) c b) ((readVar at_ p (c :: t)).1, (readVar at_ p (c :: t)).2.1) := by
      rintro b rfl
      refine Ev_succ ?_
      simp only [spec_l1Var.j2]
      by_cases h9 : p.length = 9 ∧ c > 1
      · simp only [h9, and_self, decide_true, if_true]
        refine Ev_cast (Ev.now _) ?_
        simp only [readVar]
        rw [if_neg (by omega)]
        by_cases hc8 : c < 128
        · rw [if_pos hc8, if_neg (by omega)]
        · rw [if_neg hc8, readVar_ten _ _ _ (by simp; omega)]
      · rw [decide_eq_false h9]
        simp only [Bool.false_eq_true, if_false]
        rw [w64 (by omega) (by omega), wraps_u64 _ (by omega) (by omega), sb]
        have hle : vval (p ++ [c]) < 18446744073709551616 := by
          by_cases h8 : p.length ≤ 8
          · have := s8 h8; omega
          · have h99 : p.length = 9 := by omega
            have h01 : c ≤ 1 := by omega
            rw [vval_snoc, h99]
            have := vval_lt p
            rw [h99] at this
            have h5 : (c % 128).toNat ≤ 1 := by omega
            have h6 : 128 ^ 9 * (c % 128).toNat ≤ 128 ^ 9 * 1 := Nat.mul_le_mul_left _ h5
            simp at this h6 ⊢
            omega
        rw [show ((vval (p ++ [c]) : Nat) : Int) % 18446744073709551616 = (vval (p ++ [c]) : Int) by omega]
        simp only [if_pos (show 0 ≤ 7 * (p.length : Int) by omega)]
        by_cases hc8 : c < 128
        · simp only [if_pos hc8]
          rw [w64 (n := (at_ : Int) + p.length) (by omega) (by omega), w64 (n := (at_ : Int) + p.length + 1) (by omega) (by omega)]
          have er : readVar at_ p (c :: t) = if (p = [] ∨ c ≠ 0) ∧ (p.length = 9 → c ≤ 1) then ((vval (p ++ [c]) : Int), (at_ : Int) + p.length + 1, true) else (0, 0, false) := by
            simp only [readVar]; rw [if_neg (by omega), if_pos hc8]
          rw [er]
          by_cases hp0 : p = []
          · subst hp0
            rw [if_pos (show (([] : List Int) = [] ∨ c ≠ 0) ∧ (([] : List Int).length = 9 → c ≤ 1) from ⟨.inl rfl, by simp⟩)]
            simp only [if_neg (show ¬ ((([] : List Int).length : Int) > 0) by simp)]
            exact Ev_cast (Ev.now _) (by simp)
          · have hpl : 0 < p.length := List.length_pos_iff.2 hp0
            simp only [if_pos (show (p.length : Int) > 0 by omega)]
            by_cases hc0 : c = 0
            · simp only [if_pos hc0]
              rw [if_neg (by simp [hp0, hc0])]
              exact Ev.now _
            · simp only [if_neg hc0]
              rw [if_pos ⟨.inr hc0, by omega⟩]
              exact Ev_cast (Ev.now _) rfl
        · simp only [if_neg hc8]
          rw [w64 (by omega) (by omega)]
          have e1 : readVar at_ p (c :: t) = readVar at_ (p ++ [c]) t := by
            simp only [readVar]; rw [if_neg (by omega), if_neg hc8]
          rw [e1]
          rcases ih (p ++ [c]) (by rw [hd]; simp) ha (by simp; omega) (by
            intro x hx
            rcases List.mem_append.1 hx with h | h
            · exact hcp x h
            · obtain rfl : x = c := by simpa using h
              omega) with h | h
          · by_cases h99 : p.length = 9
            · omega
            · rw [if_pos (by simp; omega)] at h
              simpa using h
          · simp at h
            omega
    by_cases h9 : (p.length : Int) = 9
    · simp only [if_pos h9]
      exact go _ (by have : p.length = 9 := by omega
                     simp [this])
    · simp only [if_neg h9]
      exact go _ (by have : ¬ p.length = 9 := by omega
                     simp [this])
theorem spec_l1Var_ev (l : List Int) (hb : Bytes l) (hl : l.length ≤ 281474976710656) (at_ : Nat) (ha : at_ ≤ l.length) : Ev (fun k => spec_l1Var.f k l (at_ : Int)) ((readVar at_ [] (l.drop at_)).1, (readVar at_ [] (l.drop at_)).2.1) := by
  unfold spec_l1Var.f
  rcases spec_l1Var_l0 l hb hl at_ (l.drop at_) [] (by simp) ha (by simp) (fun x hx => by cases hx) with h | h
  · simpa [vval] using h
  · simp at h
theorem impl_ReadVar_l0 (l : List Int) (hb : Bytes l) (hl : l.length ≤ 281474976710656) (at_ : Nat) : ∀ (t p : List Int), l.drop at_ = p ++ t → at_ ≤ l.length → p.length ≤ 10 → Conts p →
    ∀ x : Int, (p.length ≤ 9 → x = (vval p : Int)) → Ev (fun k => impl_ReadVar.l0 k l (at_ : Int) x ((at_ : Int) + p.length)) (readVar at_ p t) := by
  intro t
  induction t with
  | nil =>
    intro p hd ha hp hcp x hx
    refine Ev_succ ?_
    have hlen := congrArg List.length hd
    simp at hlen
    simp only [impl_ReadVar.l0]
    rw [w64 (n := (at_ : Int) + 10) (by omega) (by omega)]
    simp only [if_neg (show ¬ (at_ : Int) + p.length < mn (l.length : Int) ((at_ : Int) + 10) by unfold mn; split <;> omega)]
    exact Ev.now _
  | cons c t ih =>
    intro p hd ha hp hcp x hx
    refine Ev_succ ?_
    have hlen := congrArg List.length hd
    simp at hlen
    simp only [impl_ReadVar.l0]
    by_cases h10 : p.length = 10
    · rw [w64 (n := (at_ : Int) + 10) (by omega) (by omega), readVar_ten _ _ _ (by omega)]
      simp only [if_neg (show ¬ (at_ : Int) + p.length < mn (l.length : Int) ((at_ : Int) + 10) by unfold mn; split <;> omega)]
      exact Ev.now _
    have hx := hx (by omega)
    subst hx
    have hrd : rd l ((at_ : Int) + p.length) = c := by
      have : (l.drop at_)[p.length]? = some c := by rw [hd]; simp
      rw [List.getElem?_drop] at this
      have h3 : at_ + p.length < l.length := by omega
      rw [show ((at_ : Int) + p.length) = ((at_ + p.length : Nat) : Int) by omega, rd_lt h3]
      rw [List.getElem?_eq_getElem h3] at this
      exact Option.some.inj this
    have hcm : c ∈ l := by
      have : c ∈ l.drop at_ := by rw [hd]; simp
      exact List.mem_of_mem_drop this
    have hcb := hb c hcm
    obtain ⟨sb, s8⟩ := step_bits p c hcb.1 hcb.2 (by omega)
    rw [w64 (n := (at_ : Int) + 10) (by omega) (by omega)]
    simp only [if_pos (show (at_ : Int) + p.length < mn (l.length : Int) ((at_ : Int) + 10) by unfold mn; split <;> omega)]
    simp only [hrd]
    rw [w64 (n := (at_ : Int) + p.length - at_) (by omega) (by omega), show (at_ : Int) + p.length - at_ = (p.length : Int) by omega, w64 (n := 7 * (p.length : Int)) (by omega) (by omega), w64 (n := (at_ : Int) + p.length + 1) (by omega) (by omega), sb]
    simp only [if_pos (show 0 ≤ (at_ : Int) + p.length by omega), if_pos (show (at_ : Int) + p.length < (l.length : Int) by omega), if_pos (show 0 ≤ 7 * (p.length : Int) by omega)]
    by_cases hc8 : c < 128
    · simp only [if_pos hc8]
      have er : readVar at_ p (c :: t) = if (p = [] ∨ c ≠ 0) ∧ (p.length = 9 → c ≤ 1) then ((vval (p ++ [c]) : Int), (at_ : Int) + p.length + 1, true) else (0, 0, false) := by
        simp only [readVar]; rw [if_neg (by omega), if_pos hc8]
      rw [er]
      rw [show ((vval (p ++ [c]) : Nat) : Int) % 18446744073709551616 = ((vval (p ++ [c]) % 18446744073709551616 : Nat) : Int) by omega]
      have hm : vval (p ++ [c]) % 18446744073709551616 ≤ 18446744073709551615 := by omega
      refine Ev.bind (impl_PutVar_ev _ hm) ?_
      simp only [if_pos (show 0 ≤ (at_ : Int) by omega), if_pos (show (at_ : Int) ≤ (at_ : Int) + p.length + 1 by omega), if_pos (show (at_ : Int) + p.length + 1 ≤ (l.length : Int) by omega)]
      have hcut : (l.take ((at_ : Int) + p.length + 1).toNat).drop (at_ : Int).toNat = p ++ [c] := by
        rw [show ((at_ : Int) + p.length + 1).toNat = at_ + (p.length + 1) by omega, show ((at_ : Int)).toNat = at_ by omega, ← List.take_drop, hd]
        rw [show p ++ c :: t = (p ++ [c]) ++ t by simp, List.take_append_of_le_length (by simp)]
        rw [List.take_of_length_le (by simp)]
      rw [hcut]
      have hpb : Bytes (p ++ [c]) := by
        intro y hy
        have : y ∈ l.drop at_ := by rw [hd, show p ++ c :: t = (p ++ [c]) ++ t by simp]; exact List.mem_append_left _ hy
        exact hb y (List.mem_of_mem_drop this)
      refine Ev.bind (Ev_some (by unfold bytes_Equal.f; rw [strOfNums_eq _ _ (putVar_bytes _) hpb])) ?_
      by_cases hg : (p = [] ∨ c ≠ 0) ∧ (p.length = 9 → c ≤ 1)
      · rw [if_pos hg]
        have hle : vval (p ++ [c]) < 18446744073709551616 := by
          by_cases h8 : p.length ≤ 8
          · have := s8 h8; omega
          · have h99 : p.length = 9 := by omega
            have h01 : c ≤ 1 := hg.2 h99
            rw [vval_snoc, h99]
            have := vval_lt p
            rw [h99] at this
            have h5 : (c % 128).toNat ≤ 1 := by omega
            have h6 : 128 ^ 9 * (c % 128).toNat ≤ 128 ^ 9 * 1 := Nat.mul_le_mul_left _ h5
            simp at this h6 ⊢
            omega
        rw [Nat.mod_eq_of_lt hle]
        rw [decide_eq_true (putVar_vval p c hcp hcb.1 hc8 hg.1)]
        simp only [if_true]
        exact Ev.now _
      · rw [if_neg hg]
        have hne : ¬ putVar (vval (p ++ [c]) % 18446744073709551616) = p ++ [c] := by
          intro e
          have h1 := putVar_last _ _ _ e
          have h2 := vval_putVar (vval (p ++ [c]) % 18446744073709551616)
          rw [e] at h2
          apply hg
          refine ⟨h1, fun h9 => ?_⟩
          have h3 : vval (p ++ [c]) < 18446744073709551616 := by omega
          rw [vval_snoc, h9] at h3
          by_cases hc2 : c ≤ 1
          · exact hc2
          · exfalso
            have h5 : 2 ≤ (c % 128).toNat := by omega
            have h6 : 128 ^ 9 * 2 ≤ 128 ^ 9 * (c % 128).toNat := Nat.mul_le_mul_left _ h5
            simp at h3 h6
            omega
        rw [decide_eq_false hne]
        simp only [Bool.false_eq_true, if_false]
        exact Ev.now _
    · simp only [if_neg hc8]
      have e1 : readVar at_ p (c :: t) = readVar at_ (p ++ [c]) t := by
        simp only [readVar]; rw [if_neg (by omega), if_neg hc8]
      rw [e1, show (at_ : Int) + p.length + 1 = (at_ : Int) + ((p ++ [c]).length : Int) by simp; omega]
      refine ih (p ++ [c]) (by rw [hd]; simp) ha (by simp; omega) ?_ _ (fun h => ?_)
      · intro x hx
        rcases List.mem_append.1 hx with h | h
        · exact hcp x h
        · obtain rfl : x = c := by simpa using h
          omega
      · have : p.length ≤ 8 := by simp at h; omega
        have := s8 this
        omega
theorem impl_ReadVar_ev (l : List Int) (hb : Bytes l) (hl : l.length ≤ 281474976710656) (a : Int) : Ev (fun k => impl_ReadVar.f k l a) (if 0 ≤ a ∧ a ≤ l.length then readVar a.toNat [] (l.drop a.toNat) else (0, 0, false)) := by
  unfold impl_ReadVar.f
  refine Ev.bind (Ev_some (within_eq _ _ _)) ?_
  by_cases h : 0 ≤ a ∧ a ≤ l.length
  · rw [decide_eq_true h, if_pos h]
    simp only [if_true]
    have := impl_ReadVar_l0 l hb hl a.toNat (l.drop a.toNat) [] (by simp) (by omega) (by simp) (fun x hx => by cases hx) 0 (fun _ => by simp [vval])
    simp only [List.length_nil, Int.natCast_zero, Int.add_zero] at this
    rwa [show ((a.toNat : Nat) : Int) = a by omega] at this
  · rw [decide_eq_false h, if_neg h]
    simp only [Bool.false_eq_true, if_false]
    exact Ev.now _
theorem readVar_ok (at_ : Nat) : ∀ (t p : List Int), readVar at_ p t = ((readVar at_ p t).1, (readVar at_ p t).2.1, decide ((readVar at_ p t).2.1 > 0)) := by
  intro t
  induction t with
  | nil => intro p; rfl
  | cons c t ih =>
    intro p
    simp only [readVar]
    by_cases h1 : 10 ≤ p.length
    · simp only [if_pos h1]; rfl
    · simp only [if_neg h1]
      by_cases h2 : c < 128
      · simp only [if_pos h2]
        by_cases h3 : (p = [] ∨ c ≠ 0) ∧ (p.length = 9 → c ≤ 1)
        · simp only [if_pos h3]
          rw [decide_eq_true (show (at_ : Int) + p.length + 1 > 0 by omega)]
        · simp only [if_neg h3]; rfl
      · simp only [if_neg h2]; exact ih _
/-! ### good metas -/
def metaOk (f : Int) (a b : ByteArray) (m : Int) : Bool := decide (1 ≤ f ∧ f ≤ 100000) && decide (1 ≤ (a.size : Int) ∧ (a.size : Int) ≤ 140) && decide (1 ≤ (b.size : Int) ∧ (b.size : Int) ≤ 140) && !(Op.bytesLess b.toList a.toList) && decide (1 ≤ m ∧ m ≤ 100)
theorem l9Meta_eq (f : Int) (a b : ByteArray) (m : Int) : spec_l9Meta.f f a b m = some (metaOk f a b m) := by
  unfold spec_l9Meta.f spec_l9File.f metaOk
  simp only [l1In_eq, Option.bind_some]
  by_cases h1 : 1 ≤ f ∧ f ≤ 100000
  · by_cases h2 : 1 ≤ (a.size : Int) ∧ (a.size : Int) ≤ 140
    · by_cases h3 : 1 ≤ (b.size : Int) ∧ (b.size : Int) ≤ 140
      · cases h4 : Op.bytesLess b.toList a.toList <;> simp [h1, h2, h3, h4]
      · simp [h1, h2, h3]
    · simp [h1, h2]
  · simp [h1]
theorem isGood_eq (f : Int) (a b : ByteArray) (m : Int) : impl_Meta_isGood.f f a b m = some (metaOk f a b m) := by
  unfold impl_Meta_isGood.f impl_isFile.f impl_isKeyText.f metaOk
  simp only [within_eq, Option.bind_some]
  by_cases h1 : 1 ≤ f ∧ f ≤ 100000
  · by_cases h2 : 1 ≤ (a.size : Int) ∧ (a.size : Int) ≤ 140
    · by_cases h3 : 1 ≤ (b.size : Int) ∧ (b.size : Int) ≤ 140
      · cases h4 : Op.bytesLess b.toList a.toList <;> simp [h1, h2, h3, h4]
      · simp [h1, h2, h3]
    · simp [h1, h2]
  · simp [h1]
/-! ### edits: what is good, and their bytes -/
theorem rd75_lt {l : List S75} {i : Nat} (h : i < l.length) : rd_T75 l (i : Int) = l[i] := by simp [rd_T75, h]
theorem eqAddS_same (l : List S75) (hl : l.length ≤ 1048576) : Ev (fun k => laws_eqAddS.f k l l) true := by
  have loop : ∀ (d i : Nat), l.length - i = d → i ≤ l.length → Ev (fun k => laws_eqAddS.l0 k l l (i : Int)) true := by
    intro d
    induction d with
    | zero =>
      intro i hd hi
      refine Ev_succ ?_
      simp only [laws_eqAddS.l0]
      simp only [if_neg (show ¬ (i : Int) < (l.length : Int) by omega)]
      exact Ev.now _
    | succ d ih =>
      intro i hd hi
      refine Ev_succ ?_
      simp only [laws_eqAddS.l0]
      simp only [if_pos (show (i : Int) < (l.length : Int) by omega), if_pos (show 0 ≤ (i : Int) by omega)]
      rw [w64 (by omega) (by omega)]
      refine Ev.bind (a := true) (Ev_some (by simp [laws_eqAdd.f, laws_eqMeta.f])) ?_
      simp only [if_true]
      exact ih (i + 1) (by omega) (by omega)
  unfold laws_eqAddS.f
  simp only [if_true]
  exact loop l.length 0 (by omega) (by omega)
theorem eqEdit_same (n1 n2 n3 : Int) (d : List Int) (l : List S75) (hd : d.length ≤ 1048576) (hl : l.length ≤ 1048576) : Ev (fun k => laws_eqEdit.f k n1 n2 n3 d l n1 n2 n3 d l) true := by
  unfold laws_eqEdit.f
  simp only [if_true]
  refine Ev.bind (eqIntS_same d d (by omega) rfl) ?_
  simp only [if_true]
  refine Ev.bind (eqAddS_same l hl) ?_
  simp only [if_true]
  exact Ev.now _
def fileOk (n : Int) : Bool := decide (1 ≤ n ∧ n ≤ 100000)
def addOk (x : S75) : Bool := decide (0 ≤ x.f0 ∧ x.f0 ≤ 2) && metaOk x.f1.f0 x.f1.f1 x.f1.f2 x.f1.f3
def goodE (n1 n2 n3 : Int) (d : List Int) (l : List S75) : Bool := fileOk n1 && (fileOk n2 && (decide (0 ≤ n3 ∧ n3 ≤ 1000000000) && (decide ((d.length : Int) ≤ 24) && (decide ((l.length : Int) ≤ 24) && (d.all fileOk && l.all addOk)))))
theorem l9Edit_l1 (l : List S75) (hl : l.length ≤ 1048576) : ∀ (d i : Nat), l.length - i = d → i ≤ l.length → Ev (fun k => spec_l9Edit.l1 k l (l.length : Int) (i : Int)) ((l.drop i).all addOk) := by
  intro d
  induction d with
  | zero =>
    intro i hd hi
    refine Ev_succ ?_
    simp only [spec_l9Edit.l1]
    simp only [if_neg (show ¬ (i : Int) < (l.length : Int) by omega)]
    exact Ev_cast (Ev.now _) (by rw [List.drop_eq_nil_of_le (by omega)]; rfl)
  | succ d ih =>
    intro i hd hi
    refine Ev_succ ?_
    simp only [spec_l9Edit.l1]
    simp only [if_pos (show (i : Int) < (l.length : Int) by omega), if_pos (show 0 ≤ (i : Int) by omega)]
    rw [rd75_lt (by omega), w64 (by omega) (by omega), drop_cons (l := l) (i := i) (by omega), List.all_cons]
    have nx := ih (i + 1) (by omega) (by omega)
    generalize l[i]'(by omega) = x
    simp only [l1In_eq, l9Meta_eq, Option.bind_some]
    by_cases h1 : 0 ≤ x.f0 ∧ x.f0 ≤ 2
    · simp only [h1]
      cases h2 : metaOk x.f1.f0 x.f1.f1 x.f1.f2 x.f1.f3
      · exact Ev_cast (Ev.now _) (by simp [addOk, h2])
      · exact Ev_cast nx (by simp [addOk, h1, h2])
    · simp only [h1]
      exact Ev_cast (Ev.now _) (by simp [addOk, h1])
theorem l9Edit_l0 (n1 n2 n3 : Int) (dr : List Int) (l : List S75) (hl : l.length ≤ 1048576) (hdr : dr.length ≤ 1048576) : ∀ (d i : Nat), dr.length - i = d → i ≤ dr.length → Ev (fun k => spec_l9Edit.l0 k dr (dr.length : Int) (i : Int) n1 n2 n3 dr l) ((dr.drop i).all fileOk && l.all addOk) := by
  intro d
  induction d with
  | zero =>
    intro i hd hi
    refine Ev_succ ?_
    simp only [spec_l9Edit.l0]
    simp only [if_neg (show ¬ (i : Int) < (dr.length : Int) by omega)]
    exact Ev_cast (l9Edit_l1 l hl l.length 0 (by omega) (by omega)) (by rw [List.drop_eq_nil_of_le (show dr.length ≤ i by omega)]; simp)
  | succ d ih =>
    intro i hd hi
    refine Ev_succ ?_
    simp only [spec_l9Edit.l0, spec_l9File.f]
    simp only [if_pos (show (i : Int) < (dr.length : Int) by omega), if_pos (show 0 ≤ (i : Int) by omega)]
    rw [rd_lt (by omega), w64 (by omega) (by omega), drop_cons (l := dr) (i := i) (by omega), List.all_cons]
    have nx := ih (i + 1) (by omega) (by omega)
    generalize dr[i]'(by omega) = x
    simp only [l1In_eq, Option.bind_some]
    by_cases h1 : 1 ≤ x ∧ x ≤ 100000
    · simp only [h1]
      exact Ev_cast nx (by simp [fileOk, h1])
    · simp only [h1]
      exact Ev_cast (Ev.now _) (by simp [fileOk, h1])
theorem spec_goodE (n1 n2 n3 : Int) (dr : List Int) (l : List S75) (hl : l.length ≤ 1048576) (hdr : dr.length ≤ 1048576) : Ev (fun k => spec_l9Edit.f k n1 n2 n3 dr l) (goodE n1 n2 n3 dr l) := by
  have fin : ∀ b : Bool, Ev (fun k => spec_l9Edit.j0 k b n1 n2 n3 dr l) (if b = true then false else dr.all fileOk && l.all addOk) := by
    intro b
    refine Ev_succ ?_
    simp only [spec_l9Edit.j0]
    cases b with
    | true => exact Ev.now _
    | false =>
      simp only [Bool.false_eq_true, if_false]
      exact l9Edit_l0 n1 n2 n3 dr l hl hdr dr.length 0 (by omega) (by omega)
  unfold spec_l9Edit.f spec_l9File.f goodE fileOk
  simp only [l1In_eq, Option.bind_some]
  by_cases h1 : 1 ≤ n1 ∧ n1 ≤ 100000
  · simp only [h1]
    by_cases h2 : 1 ≤ n2 ∧ n2 ≤ 100000
    · simp only [h2]
      by_cases h3 : 0 ≤ n3 ∧ n3 ≤ 1000000000
      · simp only [h3]
        by_cases h4 : (dr.length : Int) > 24
        · simp only [if_pos h4]
          exact Ev_cast (fin _) (by simp [show ¬ (dr.length : Int) ≤ 24 by omega])
        · simp only [if_neg h4]
          refine Ev_cast (fin _) ?_
          by_cases h5 : (l.length : Int) > 24
          · simp [show (dr.length : Int) ≤ 24 by omega, h5, show ¬ (l.length : Int) ≤ 24 by omega]
          · simp only [show (dr.length : Int) ≤ 24 by omega, h5, show (l.length : Int) ≤ 24 by omega]
            have : fileOk = fun n => decide (1 ≤ n) && decide (n ≤ 100000) := by funext n; simp [fileOk]
            simp [this]
      · simp only [h3]
        exact Ev_cast (fin _) (by simp)
    · simp only [h2]
      exact Ev_cast (fin _) (by simp)
  · simp only [h1]
    exact Ev_cast (fin _) (by simp)
theorem idxInt_ev (s : List Int) (hs : s.length < 17592186044416) : ∀ (d q : Nat), s.length - q = d → q ≤ s.length → ∃ r, Ev (fun k => slices_IndexFunc_int_int.l0 k s (s.length : Int) (q : Int)) r ∧ decide (r ≥ 0) = !((s.drop q).all fileOk) := by
  intro d
  induction d with
  | zero =>
    intro q hd hq
    refine ⟨-1, Ev_succ ?_, by rw [List.drop_eq_nil_of_le (by omega)]; rfl⟩
    simp only [slices_IndexFunc_int_int.l0]
    simp only [if_neg (show ¬ (q : Int) < (s.length : Int) by omega)]
    exact Ev.now _
  | succ d ih =>
    intro q hd hq
    have he : impl_Edit_isGood_1.f (s[q]'(by omega)) = some (!(fileOk (s[q]'(by omega)))) := by unfold impl_Edit_isGood_1.f impl_isFile.f fileOk; simp only [within_eq, Option.bind_some]
    obtain ⟨r, hr, hr2⟩ := ih (q + 1) (by omega) (by omega)
    cases hb : fileOk (s[q]'(by omega)) with
    | false =>
      refine ⟨(q : Int), Ev_succ ?_, ?_⟩
      · simp only [slices_IndexFunc_int_int.l0]
        simp only [if_pos (show (q : Int) < (s.length : Int) by omega), if_pos (show 0 ≤ (q : Int) by omega)]
        rw [rd_lt (show q < s.length by omega)]
        refine Ev.bind (Ev_some he) ?_
        simp only [hb, Bool.not_false, if_true]
        exact Ev.now _
      · rw [List.drop_eq_getElem_cons (show q < s.length by omega), List.all_cons, hb]
        simp
    | true =>
      refine ⟨r, Ev_succ ?_, ?_⟩
      · simp only [slices_IndexFunc_int_int.l0]
        simp only [if_pos (show (q : Int) < (s.length : Int) by omega), if_pos (show 0 ≤ (q : Int) by omega)]
        rw [rd_lt (show q < s.length by omega), w64 (by omega) (by omega)]
        refine Ev.bind (Ev_some he) ?_
        simp only [hb, Bool.not_true, Bool.false_eq_true, if_false]
        exact hr
      · rw [hr2, List.drop_eq_getElem_cons (show q < s.length by omega), List.all_cons, hb, Bool.true_and]
theorem idxAdd_ev (s : List S75) (hs : s.length < 17592186044416) : ∀ (d q : Nat), s.length - q = d → q ≤ s.length → ∃ r, Ev (fun k => impl_Add_99.l0 k s (s.length : Int) (q : Int)) r ∧ decide (r ≥ 0) = !((s.drop q).all addOk) := by
  intro d
  induction d with
  | zero =>
    intro q hd hq
    refine ⟨-1, Ev_succ ?_, by rw [List.drop_eq_nil_of_le (by omega)]; rfl⟩
    simp only [impl_Add_99.l0]
    simp only [if_neg (show ¬ (q : Int) < (s.length : Int) by omega)]
    exact Ev.now _
  | succ d ih =>
    intro q hd hq
    have he : impl_Edit_isGood_2.f (s[q]'(by omega)).f0 (s[q]'(by omega)).f1.f0 (s[q]'(by omega)).f1.f1 (s[q]'(by omega)).f1.f2 (s[q]'(by omega)).f1.f3 = some (!(addOk (s[q]'(by omega)))) := by
      generalize s[q]'(by omega) = x
      unfold impl_Edit_isGood_2.f addOk
      simp only [within_eq, isGood_eq, Option.bind_some]
      by_cases h : 0 ≤ x.f0 ∧ x.f0 ≤ 2 <;> simp [h]
    obtain ⟨r, hr, hr2⟩ := ih (q + 1) (by omega) (by omega)
    cases hb : addOk (s[q]'(by omega)) with
    | false =>
      refine ⟨(q : Int), Ev_succ ?_, ?_⟩
      · simp only [impl_Add_99.l0]
        simp only [if_pos (show (q : Int) < (s.length : Int) by omega), if_pos (show 0 ≤ (q : Int) by omega)]
        rw [rd75_lt (show q < s.length by omega)]
        refine Ev.bind (Ev_some he) ?_
        simp only [hb, Bool.not_false, if_true]
        exact Ev.now _
      · rw [List.drop_eq_getElem_cons (show q < s.length by omega), List.all_cons, hb]
        simp
    | true =>
      refine ⟨r, Ev_succ ?_, ?_⟩
      · simp only [impl_Add_99.l0]
        simp only [if_pos (show (q : Int) < (s.length : Int) by omega), if_pos (show 0 ≤ (q : Int) by omega)]
        rw [rd75_lt (show q < s.length by omega), w64 (by omega) (by omega)]
        refine Ev.bind (Ev_some he) ?_
        simp only [hb, Bool.not_true, Bool.false_eq_true, if_false]
        exact hr
      · rw [hr2, List.drop_eq_getElem_cons (show q < s.length by omega), List.all_cons, hb, Bool.true_and]
theorem impl_goodE2 (n1 n2 n3 : Int) (dr : List Int) (l : List S75) (hl : l.length ≤ 100000000) (hdr : dr.length ≤ 100000000) : Ev (fun k => impl_Edit_isGood.f k n1 n2 n3 dr l) (goodE n1 n2 n3 dr l) := by
  obtain ⟨r1, e1, g1⟩ := idxInt_ev dr (by omega) dr.length 0 (by omega) (by omega)
  obtain ⟨r2, e2, g2⟩ := idxAdd_ev l (by omega) l.length 0 (by omega) (by omega)
  rw [List.drop_zero] at g1 g2
  unfold impl_Edit_isGood.f impl_isFile.f goodE fileOk slices_ContainsFunc_int_int.f slices_IndexFunc_int_int.f impl_Add_75.f impl_Add_99.f
  simp only [within_eq, Option.bind_some]
  by_cases h1 : 1 ≤ n1 ∧ n1 ≤ 100000
  · simp only [h1, decide_true, Bool.true_and, if_true, and_self]
    by_cases h2 : 1 ≤ n2 ∧ n2 ≤ 100000
    · simp only [h2, decide_true, Bool.true_and, if_true, and_self]
      by_cases h3 : 0 ≤ n3 ∧ n3 ≤ 1000000000
      · simp only [h3, decide_true, Bool.true_and, if_true, and_self]
        by_cases h4 : (dr.length : Int) ≤ 24
        · simp only [h4, decide_true, Bool.true_and, if_true]
          by_cases h5 : (l.length : Int) ≤ 24
          · simp only [h5, decide_true, Bool.true_and, if_true]
            refine Ev.bind (Ev.bind e1 (Ev.now _)) ?_
            rw [g1]
            change Ev _ (dr.all fileOk && l.all addOk)
            cases hb : dr.all fileOk with
            | false => simp only [Bool.not_false, if_true]; exact Ev_cast (Ev.now _) (by simp)
            | true =>
              simp only [Bool.not_true, Bool.false_eq_true, if_false]
              refine Ev.bind (Ev.bind e2 (Ev.now _)) ?_
              rw [g2]
              exact Ev_cast (Ev.now _) (by simp)
          · simp only [h5, decide_false, Bool.false_and, if_false]; exact Ev.now _
        · simp only [h4, decide_false, Bool.false_and, if_false]; exact Ev.now _
      · simp only [h3, decide_false, Bool.false_and, Bool.false_eq_true, if_false]; exact Ev.now _
    · simp only [h2, decide_false, Bool.false_and, Bool.false_eq_true, if_false]; exact Ev.now _
  · simp only [h1, decide_false, Bool.false_and, Bool.false_eq_true, if_false]; exact Ev.now _
theorem impl_goodE (n1 n2 n3 : Int) (dr : List Int) (l : List S75) (hl : l.length ≤ 1048576) (hdr : dr.length ≤ 1048576) : Ev (fun k => impl_Edit_isGood.f k n1 n2 n3 dr l) (goodE n1 n2 n3 dr l) := impl_goodE2 n1 n2 n3 dr l (by omega) (by omega)
def putL (l : List Int) : List Int := (l.map fun n => putVar n.toNat).flatten
def addB (x : S75) : List Int := putL [x.f0, x.f1.f0, x.f1.f3] ++ (putVar x.f1.f1.size ++ bytesOf x.f1.f1) ++ (putVar x.f1.f2.size ++ bytesOf x.f1.f2)
def editB (n1 n2 n3 : Int) (d : List Int) (l : List S75) : List Int := putL [n1, n2, n3, (d.length : Int)] ++ putL d ++ putL [(l.length : Int)] ++ (l.map addB).flatten
def fine (l : List Int) : Prop := ∀ x ∈ l, 0 ≤ x ∧ x ≤ 1000000000
theorem fine.wrap {x : Int} (h : 0 ≤ x ∧ x ≤ 1000000000) : IntKind.u64.wrap x = (x.toNat : Int) := by rw [wrap_u64]; omega
theorem putL_len : ∀ (l : List Int), fine l → (putL l).length ≤ 10 * l.length
  | [], _ => by simp [putL]
  | x :: r, h => by
    have h1 := putVar_length_64 (n := x.toNat) (by have := h x (List.mem_cons_self ..); omega)
    have h2 := putL_len r (fun y hy => h y (List.mem_cons_of_mem _ hy))
    unfold putL at h2 ⊢
    simp only [List.map_cons, List.flatten_cons, List.length_append, List.length_cons]
    omega
theorem impl_p_ev : ∀ (l out : List Int), fine l → out.length + 10 * l.length ≤ 1000000000 → Ev (fun k => impl_editBytes.p k l out) (out ++ putL l)
  | [], out, _, _ => by simp only [impl_editBytes.p]; exact Ev_cast (Ev.now _) (by simp [putL])
  | x :: r, out, h, hl => by
    have hx := h x (List.mem_cons_self ..)
    have hp := putVar_length_64 (n := x.toNat) (by omega)
    have hlen : (x :: r).length = r.length + 1 := rfl
    simp only [impl_editBytes.p]
    rw [fine.wrap hx]
    refine Ev.bind (impl_PutVar_ev _ (by omega)) ?_
    simp only [if_pos (show out.length + (putVar x.toNat).length < 140737488355328 by omega)]
    exact Ev_cast (impl_p_ev r _ (fun y hy => h y (List.mem_cons_of_mem _ hy)) (by rw [List.length_append]; omega)) (by simp [putL])
theorem impl_sized_ev (s : ByteArray) (h : s.size ≤ 1000000) : Ev (fun k => impl_sized.f k s) (putVar s.size ++ bytesOf s) := by
  unfold impl_sized.f
  have hp := putVar_length_64 (n := s.size) (by omega)
  rw [show IntKind.u64.wrap (s.size : Int) = (s.size : Int) by rw [wrap_u64]; omega]
  refine Ev.bind (impl_PutVar_ev _ (by omega)) ?_
  simp only [if_pos (show (putVar s.size).length + s.size < 140737488355328 by omega)]
  exact Ev.now _
def fineA (x : S75) : Prop := (0 ≤ x.f0 ∧ x.f0 ≤ 1000000000) ∧ (0 ≤ x.f1.f0 ∧ x.f1.f0 ≤ 1000000000) ∧ (0 ≤ x.f1.f3 ∧ x.f1.f3 ≤ 1000000000) ∧ x.f1.f1.size ≤ 140 ∧ x.f1.f2.size ≤ 140
theorem fineA.three {x : S75} (h : fineA x) : fine [x.f0, x.f1.f0, x.f1.f3] := by
  intro y hy
  simp only [List.mem_cons, List.not_mem_nil, or_false] at hy
  rcases hy with rfl | rfl | rfl
  · exact h.1
  · exact h.2.1
  · exact h.2.2.1
theorem addB_len {x : S75} (h : fineA x) : (addB x).length ≤ 330 := by
  have h1 := putL_len _ h.three
  have h2 := putVar_length_64 (n := x.f1.f1.size) (by have := h.2.2.2.1; omega)
  have h3 := putVar_length_64 (n := x.f1.f2.size) (by have := h.2.2.2.2; omega)
  have := h.2.2.2
  unfold addB
  simp only [List.length_append, bytesOf_length, List.length_cons, List.length_nil] at h1 ⊢
  omega
theorem impl_a_ev : ∀ (l : List S75) (out : List Int), (∀ x ∈ l, fineA x) → out.length + 1000 * l.length ≤ 100000000 → Ev (fun k => impl_editBytes.a k l out) (out ++ (l.map addB).flatten)
  | [], out, _, _ => by simp only [impl_editBytes.a]; exact Ev_cast (Ev.now _) (by simp)
  | x :: r, out, h, hl => by
    have hx := h x (List.mem_cons_self ..)
    have hb := addB_len hx
    have hlen : (x :: r).length = r.length + 1 := rfl
    have h1 := putL_len _ hx.three
    have h2 := putVar_length_64 (n := x.f1.f1.size) (by have := hx.2.2.2.1; omega)
    have h3 := putVar_length_64 (n := x.f1.f2.size) (by have := hx.2.2.2.2; omega)
    have h4 := hx.2.2.2
    simp only [List.length_cons, List.length_nil] at h1
    simp only [impl_editBytes.a]
    refine Ev.bind (impl_p_ev _ out hx.three (by simp only [List.length_cons, List.length_nil]; omega)) ?_
    refine Ev.bind (impl_sized_ev _ (by omega)) (Ev.bind (impl_sized_ev _ (by omega)) ?_)
    simp only [if_pos (show (out ++ putL [x.f0, x.f1.f0, x.f1.f3]).length + (putVar x.f1.f1.size ++ bytesOf x.f1.f1).length + (putVar x.f1.f2.size ++ bytesOf x.f1.f2).length < 140737488355328 by simp only [List.length_append, bytesOf_length]; omega)]
    refine Ev_cast (impl_a_ev r _ (fun y hy => h y (List.mem_cons_of_mem _ hy)) ?_) (by simp [addB])
    simp only [List.length_append, bytesOf_length]
    omega
theorem flat_len : ∀ (l : List S75), (∀ x ∈ l, fineA x) → ((l.map addB).flatten).length ≤ 330 * l.length
  | [], _ => by simp
  | x :: r, h => by
    have h1 := addB_len (h x (List.mem_cons_self ..))
    have h2 := flat_len r (fun y hy => h y (List.mem_cons_of_mem _ hy))
    simp only [List.map_cons, List.flatten_cons, List.length_append, List.length_cons]
    omega
/-- what the bytes of an edit need: all numbers small and not below 0, all texts short -/
structure FineE (n1 n2 n3 : Int) (d : List Int) (l : List S75) : Prop where
  h1 : 0 ≤ n1 ∧ n1 ≤ 1000000000
  h2 : 0 ≤ n2 ∧ n2 ≤ 1000000000
  h3 : 0 ≤ n3 ∧ n3 ≤ 1000000000
  hd : fine d
  hl : ∀ x ∈ l, fineA x
  nd : d.length ≤ 24
  nl : l.length ≤ 24
theorem FineE.of_good {n1 n2 n3 : Int} {d : List Int} {l : List S75} (h : goodE n1 n2 n3 d l = true) : FineE n1 n2 n3 d l := by
  unfold goodE fileOk at h
  simp only [Bool.and_eq_true, decide_eq_true_eq] at h
  obtain ⟨h1, h2, h3, h4, h5, h6, h7⟩ := h
  refine ⟨by omega, by omega, by omega, fun x hx => ?_, fun x hx => ?_, by omega, by omega⟩
  · have := List.all_eq_true.1 h6 x hx
    unfold fileOk at this
    simp only [decide_eq_true_eq] at this
    omega
  · have := List.all_eq_true.1 h7 x hx
    unfold addOk metaOk at this
    simp only [Bool.and_eq_true, decide_eq_true_eq] at this
    obtain ⟨a1, ⟨⟨⟨a2, a3⟩, a4⟩, a5⟩, a6⟩ := this
    exact ⟨by omega, by omega, by omega, by omega, by omega⟩
theorem FineE.four {n1 n2 n3 : Int} {d : List Int} {l : List S75} (h : FineE n1 n2 n3 d l) : fine [n1, n2, n3, (d.length : Int)] := by
  intro y hy
  simp only [List.mem_cons, List.not_mem_nil, or_false] at hy
  rcases hy with rfl | rfl | rfl | rfl
  · exact h.h1
  · exact h.h2
  · exact h.h3
  · have := h.nd; omega
theorem FineE.one {n1 n2 n3 : Int} {d : List Int} {l : List S75} (h : FineE n1 n2 n3 d l) : fine [(l.length : Int)] := by
  intro y hy
  simp only [List.mem_cons, List.not_mem_nil, or_false] at hy
  subst hy
  have := h.nl; omega
theorem editB_len {n1 n2 n3 : Int} {d : List Int} {l : List S75} (h : FineE n1 n2 n3 d l) : (editB n1 n2 n3 d l).length ≤ 10000 := by
  have h1 := putL_len _ h.four
  have h2 := putL_len _ h.hd
  have h3 := putL_len _ h.one
  have h4 := flat_len _ h.hl
  have := h.nd
  have := h.nl
  unfold editB
  simp only [List.length_append, List.length_cons, List.length_nil] at h1 h3 ⊢
  omega
theorem impl_editB_ev {n1 n2 n3 : Int} {d : List Int} {l : List S75} (h : FineE n1 n2 n3 d l) : Ev (fun k => impl_editBytes.f k n1 n2 n3 d l) (editB n1 n2 n3 d l) := by
  have h1 := putL_len _ h.four
  have h2 := putL_len _ h.hd
  have h3 := putL_len _ h.one
  have hnd := h.nd
  have hnl := h.nl
  simp only [List.length_cons, List.length_nil] at h1 h3
  unfold impl_editBytes.f
  refine Ev.bind (impl_p_ev _ [] h.four (by simp)) ?_
  refine Ev.bind (impl_p_ev _ _ h.hd (by simp only [List.length_append, List.length_nil]; omega)) ?_
  refine Ev.bind (impl_p_ev _ _ h.one (by simp only [List.length_append, List.length_nil, List.length_cons]; omega)) ?_
  refine Ev_cast (impl_a_ev l _ h.hl (by simp only [List.length_append, List.length_nil]; omega)) (by simp [editB])
/-! ### edits: marks that stand still -/
def markedA : Nat → List S75 → Prop
  | _, [] => True
  | a, x :: t => x.f0 = (a : Int) ∧ x.f1.f0 = ((a + 1 : Nat) : Int) ∧ Ev (fun k => laws_markText.f k ((a + 2 : Nat) : Int)) x.f1.f1 ∧ Ev (fun k => laws_markText.f k ((a + 3 : Nat) : Int)) x.f1.f2 ∧ x.f1.f3 = ((a + 4 : Nat) : Int) ∧ markedA (a + 5) t
theorem wraps5 (a : Nat) (h : a ≤ 1000000000) : wrap64 ((a : Int) + 1) = ((a + 1 : Nat) : Int) ∧ wrap64 (wrap64 ((a : Int) + 1) + 1) = ((a + 2 : Nat) : Int) ∧ wrap64 (wrap64 (wrap64 ((a : Int) + 1) + 1) + 1) = ((a + 3 : Nat) : Int) ∧ wrap64 (wrap64 (wrap64 (wrap64 ((a : Int) + 1) + 1) + 1) + 1) = ((a + 4 : Nat) : Int) ∧ wrap64 (wrap64 (wrap64 (wrap64 (wrap64 ((a : Int) + 1) + 1) + 1) + 1) + 1) = ((a + 5 : Nat) : Int) := by
  have h1 : wrap64 ((a : Int) + 1) = ((a + 1 : Nat) : Int) := by rw [w64 (by omega) (by omega)]; omega
  have h2 : wrap64 (((a + 1 : Nat) : Int) + 1) = ((a + 2 : Nat) : Int) := by rw [w64 (by omega) (by omega)]; omega
  have h3 : wrap64 (((a + 2 : Nat) : Int) + 1) = ((a + 3 : Nat) : Int) := by rw [w64 (by omega) (by omega)]; omega
  have h4 : wrap64 (((a + 3 : Nat) : Int) + 1) = ((a + 4 : Nat) : Int) := by rw [w64 (by omega) (by omega)]; omega
  have h5 : wrap64 (((a + 4 : Nat) : Int) + 1) = ((a + 5 : Nat) : Int) := by rw [w64 (by omega) (by omega)]; omega
  rw [h1, h2, h3, h4, h5]
  exact ⟨rfl, rfl, rfl, rfl, rfl⟩
theorem markAddS_ev : ∀ (l : List S75) (a : Nat), a + 5 * l.length ≤ 100000000 → ∃ L : List S75, Ev (fun k => laws_markAddS.l k l (a : Int)) (((a + 5 * l.length : Nat) : Int), L) ∧ L.length = l.length ∧ markedA a L
  | [], a, _ => ⟨[], Ev.now _, rfl, trivial⟩
  | x :: t, a, h => by
    have hlen : (x :: t).length = t.length + 1 := rfl
    obtain ⟨r1, h1⟩ := markText_ev (a + 2) (by omega)
    obtain ⟨r2, h2⟩ := markText_ev (a + 3) (by omega)
    obtain ⟨L, hL, hl, hm⟩ := markAddS_ev t (a + 5) (by omega)
    obtain ⟨w1, w2, w3, w4, w5⟩ := wraps5 a (by omega)
    refine ⟨⟨(a : Int), ⟨((a + 1 : Nat) : Int), r1, r2, ((a + 4 : Nat) : Int)⟩⟩ :: L, ?_, by simp [hl], rfl, rfl, h1, h2, rfl, hm⟩
    simp only [laws_markAddS.l]
    rw [w5, w4, w3, w2, w1]
    refine Ev.bind h1 (Ev.bind h2 (Ev.bind hL (Ev_cast (Ev.now _) ?_)))
    rw [hlen, show a + 5 + 5 * t.length = a + 5 * (t.length + 1) by omega]
theorem heldAddS_l0 (L : List S75) (hL : L.length ≤ 1000000) : ∀ (d i a : Nat), L.length - i = d → i ≤ L.length → a + 5 * d ≤ 100000000 → markedA a (L.drop i) → Ev (fun k => laws_heldAddS.l0 k L (a : Int) (i : Int)) ((a + 5 * d : Nat) : Int) := by
  intro d
  induction d with
  | zero =>
    intro i a hd hi ha hm
    refine Ev_succ ?_
    simp only [laws_heldAddS.l0]
    simp only [if_neg (show ¬ (i : Int) < (L.length : Int) by omega)]
    exact Ev.now _
  | succ d ih =>
    intro i a hd hi ha hm
    rw [drop_cons (l := L) (i := i) (by omega)] at hm
    obtain ⟨m0, m1, m2, m3, m4, m5⟩ := hm
    obtain ⟨w1, w2, w3, w4, w5⟩ := wraps5 a (by omega)
    refine Ev_succ ?_
    simp only [laws_heldAddS.l0]
    simp only [if_pos (show (i : Int) < (L.length : Int) by omega), if_pos (show 0 ≤ (i : Int) by omega)]
    rw [rd75_lt (by omega), w5, w4, w3, w2, w1, w64 (n := (i : Int) + 1) (by omega) (by omega)]
    clear w1 w2 w3 w4 w5
    simp only [if_pos m0, if_pos m1]
    refine Ev.bind m2 ?_
    simp only [if_true]
    refine Ev.bind m3 ?_
    simp only [if_true, if_pos m4]
    have nx := ih (i + 1) (a + 5) (by omega) (by omega) (by omega) m5
    rw [show a + 5 + 5 * d = a + 5 * (d + 1) by omega, show ((i + 1 : Nat) : Int) = (i : Int) + 1 by omega] at nx
    exact nx
theorem markEdit_both (n1 n2 n3 : Int) (d : List Int) (l : List S75) (hd : d.length ≤ 1048576) (hl : l.length ≤ 1000000) : ∃ p : Int × List Int × List S75, Ev (fun k => laws_markEdit.f k n1 n2 n3 d l 1) p ∧ 0 ≤ p.1 ∧ Ev (fun k => laws_heldEdit.f k n1 n2 n3 p.2.1 p.2.2 1) p.1 := by
  obtain ⟨L, h1, h2, h3⟩ := markAddS_ev l (1 + d.length) (by omega)
  refine ⟨(((1 + d.length + 5 * l.length : Nat) : Int), imarkedFrom 1 d.length, L), ?_, by simp only; omega, ?_⟩
  · unfold laws_markEdit.f laws_markAddS.f
    refine Ev.bind (markIntS_ev d 1 (by omega) (by omega) (by omega)) ?_
    simp only [if_pos (show l.length ≤ 1152921504606846976 by omega)]
    rw [show (1 : Int) + (d.length : Int) = ((1 + d.length : Nat) : Int) by omega]
    exact Ev.bind h1 (Ev.now _)
  · unfold laws_heldEdit.f
    refine Ev.bind (heldIntS_ev 1 d.length (by omega) (by omega) (by omega)) ?_
    simp only [if_neg (show ¬ (1 : Int) + (d.length : Int) < 0 by omega)]
    rw [show (1 : Int) + (d.length : Int) = ((1 + d.length : Nat) : Int) by omega]
    unfold laws_heldAddS.f
    refine Ev.bind (heldAddS_l0 L (by omega) L.length 0 (1 + d.length) (by omega) (by omega) (by omega) (by rw [List.drop_zero]; exact h3)) ?_
    rw [h2]
    simp only [if_neg (show ¬ ((1 + d.length + 5 * l.length : Nat) : Int) < 0 by omega)]
    exact Ev.now _
/-! ### what a read number was written as -/
theorem readVar_split (at_ : Nat) : ∀ (t p : List Int), Conts p → Bytes t → (readVar at_ p t).2.2 = true →
    ∃ (n : Nat) (r : List Int), p ++ t = putVar n ++ r ∧ n ≤ 18446744073709551615 ∧ (readVar at_ p t).1 = (n : Int) ∧ (readVar at_ p t).2.1 = ((at_ + (putVar n).length : Nat) : Int) := by
  intro t
  induction t with
  | nil => intro p _ _ h; simp [readVar] at h
  | cons c t ih =>
    intro p hp hb h
    have hc := hb c (List.mem_cons_self ..)
    simp only [readVar] at h ⊢
    by_cases h1 : 10 ≤ p.length
    · simp [if_pos h1] at h
    · simp only [if_neg h1] at h ⊢
      by_cases h2 : c < 128
      · simp only [if_pos h2] at h ⊢
        by_cases h3 : (p = [] ∨ c ≠ 0) ∧ (p.length = 9 → c ≤ 1)
        · simp only [if_pos h3]
          have hv := putVar_vval p c hp hc.1 h2 h3.1
          refine ⟨vval (p ++ [c]), t, by rw [hv]; simp, ?_, rfl, by rw [hv]; simp; omega⟩
          by_cases h9 : p.length = 9
          · have hc1 := h3.2 h9
            have := vval_lt p
            rw [vval_snoc, h9]
            rw [h9] at this
            have hcc : (c % 128).toNat ≤ 1 := by omega
            have hm : 128 ^ 9 * (c % 128).toNat ≤ 128 ^ 9 * 1 := Nat.mul_le_mul_left _ hcc
            omega
          · have h8 := vval_lt (p ++ [c])
            have : (128 : Nat) ^ (p ++ [c]).length ≤ 128 ^ 9 := Nat.pow_le_pow_right (by decide) (by simp; omega)
            omega
        · simp [if_neg h3] at h
      · simp only [if_neg h2] at h ⊢
        obtain ⟨n, r, e, rest⟩ := ih (p ++ [c]) (fun x hx => by
          rcases List.mem_append.1 hx with hx | hx
          · exact hp x hx
          · rw [List.mem_singleton.1 hx]; omega) (fun x hx => hb x (List.mem_cons_of_mem _ hx)) h
        exact ⟨n, r, by rw [← e]; simp, rest⟩
theorem step_at {l : List Int} (hb : Bytes l) {a : Nat} (ha : a ≤ l.length) (h : (readVar a [] (l.drop a)).2.2 = true) :
    ∃ n : Nat, n ≤ 18446744073709551615 ∧ (readVar a [] (l.drop a)).1 = (n : Int) ∧ (readVar a [] (l.drop a)).2.1 = ((a + (putVar n).length : Nat) : Int) ∧ l.drop a = putVar n ++ l.drop (a + (putVar n).length) ∧ a + (putVar n).length ≤ l.length := by
  obtain ⟨n, r, e, hn, e1, e2⟩ := readVar_split a (l.drop a) [] (fun x hx => by cases hx) (fun x hx => hb x (List.mem_of_mem_drop hx)) h
  rw [List.nil_append] at e
  refine ⟨n, hn, e1, e2, ?_, ?_⟩
  · have : l.drop (a + (putVar n).length) = r := by rw [← List.drop_drop, e, List.drop_left]
    rw [this, e]
  · have := congrArg List.length e
    rw [List.length_drop, List.length_append] at this
    omega
theorem readVar_nonneg (at_ : Nat) : ∀ (t p : List Int), 0 ≤ (readVar at_ p t).2.1 := by
  intro t
  induction t with
  | nil => intro p; simp [readVar]
  | cons c t ih =>
    intro p
    simp only [readVar]
    by_cases h1 : 10 ≤ p.length
    · simp [if_pos h1]
    · simp only [if_neg h1]
      by_cases h2 : c < 128
      · simp only [if_pos h2]
        split
        · show (0 : Int) ≤ (at_ : Int) + p.length + 1
          omega
        · simp
      · simp only [if_neg h2]; exact ih _
/-! ### ReadEdit: a reader of numbers and texts, with a limit -/
def rnum (L : Nat) (l : List Int) (a : Nat) (b : Bool) : Nat × Nat × Bool := if b = true then (0, a, true) else if (readVar a [] (l.drop a)).2.2 = true ∧ (readVar a [] (l.drop a)).1 ≤ (L : Int) then ((readVar a [] (l.drop a)).1.toNat, (readVar a [] (l.drop a)).2.1.toNat, false) else (0, a, true)
theorem rnum_bad (L : Nat) (l : List Int) (a : Nat) : rnum L l a true = (0, a, true) := rfl
theorem rnum_ok {l : List Int} (hb : Bytes l) {L a n a2 : Nat} (ha : a ≤ l.length) (h : rnum L l a false = (n, a2, false)) : n ≤ L ∧ l.drop a = putVar n ++ l.drop a2 ∧ a < a2 ∧ a2 ≤ l.length ∧ ∀ L2, n ≤ L2 → rnum L2 l a false = (n, a2, false) := by
  unfold rnum at h
  rw [if_neg (by decide)] at h
  by_cases hok : (readVar a [] (l.drop a)).2.2 = true ∧ (readVar a [] (l.drop a)).1 ≤ (L : Int)
  · rw [if_pos hok] at h
    obtain ⟨x, hx, e1, e2, e3, e4⟩ := step_at hb ha hok.1
    have hp := putVar_pos x
    have hok2 := hok
    rw [e1] at hok2
    rw [e1, e2, Int.toNat_natCast, Int.toNat_natCast] at h
    simp only [Prod.mk.injEq, and_true] at h
    obtain ⟨rfl, rfl⟩ := h
    refine ⟨by omega, e3, by omega, e4, fun L2 hL => ?_⟩
    unfold rnum
    rw [if_neg (by decide), if_pos ⟨hok.1, by rw [e1]; omega⟩, e1, e2, Int.toNat_natCast, Int.toNat_natCast]
  · rw [if_neg hok] at h
    simp at h
theorem rnum_at {l : List Int} (hb : Bytes l) (L a : Nat) (b : Bool) (ha : a ≤ l.length) : a ≤ (rnum L l a b).2.1 ∧ (rnum L l a b).2.1 ≤ l.length ∧ (rnum L l a b).1 ≤ L ∧ ((rnum L l a b).2.2 = false → a < (rnum L l a b).2.1) := by
  cases hr : rnum L l a b with
  | mk n p =>
    obtain ⟨a2, b2⟩ := p
    cases b2 with
    | true =>
      unfold rnum at hr
      have h2 : n = 0 ∧ a2 = a := by
        split at hr
        · simp only [Prod.mk.injEq] at hr; omega
        · split at hr
          · simp at hr
          · simp only [Prod.mk.injEq] at hr; omega
      simp only
      exact ⟨by omega, by omega, by omega, fun h => by cases h⟩
    | false =>
      cases b with
      | true => simp [rnum_bad] at hr
      | false =>
        obtain ⟨h1, _, h3, h4, _⟩ := rnum_ok hb ha hr
        exact ⟨by simp only; omega, by simp only; omega, by simp only; omega, fun _ => by simp only; omega⟩
theorem inum_ev (l : List Int) (hb : Bytes l) (hl : l.length ≤ 1048576) (a : Nat) (ha : a ≤ l.length) (b : Bool) : Ev (fun k => impl_ReadEdit.num k l (a : Int) b) (((rnum 1000000000 l a b).1 : Int), ((rnum 1000000000 l a b).2.1 : Int), (rnum 1000000000 l a b).2.2) := by
  unfold impl_ReadEdit.num
  have h0 := impl_ReadVar_ev l hb (by omega) (a : Int)
  rw [if_pos (by omega), Int.toNat_natCast] at h0
  refine Ev.bind h0 (Ev_cast (Ev.now _) ?_)
  unfold rnum
  cases b with
  | true => rfl
  | false =>
    simp only [Bool.false_eq_true, if_false]
    cases hok : (readVar a [] (l.drop a)).2.2 with
    | false => simp
    | true =>
      obtain ⟨x, hx, e1, e2, e3, e4⟩ := step_at hb ha hok
      rw [e1, e2]
      by_cases hbig : x ≤ 1000000000
      · simp only [show ¬ (x : Int) > 1000000000 by omega, show (x : Int) ≤ ((1000000000 : Nat) : Int) by omega, decide_false, Bool.false_eq_true, Bool.true_eq_false, if_false, if_true, and_self, Int.toNat_natCast]
        rw [w64 (by omega) (by omega)]
      · simp only [show (x : Int) > 1000000000 by omega, show ¬ (x : Int) ≤ ((1000000000 : Nat) : Int) by omega, decide_true, Bool.true_eq_false, if_true, if_false, and_false]
        rfl
theorem snum_ev (l : List Int) (hb : Bytes l) (hl : l.length ≤ 1048576) (a : Nat) (ha : a ≤ l.length) (b : Bool) : Ev (fun k => spec_ReadEdit.num k l (a : Int) b) (((rnum 2000000000 l a b).1 : Int), ((rnum 2000000000 l a b).2.1 : Int), (rnum 2000000000 l a b).2.2) := by
  unfold spec_ReadEdit.num
  refine Ev.bind (spec_l1Var_ev l hb (by omega) a ha) (Ev_cast (Ev.now _) ?_)
  unfold rnum
  cases b with
  | true => rfl
  | false =>
    simp only [Bool.false_eq_true, if_false]
    cases hok : (readVar a [] (l.drop a)).2.2 with
    | false =>
      have hz : ((readVar a [] (l.drop a)).2.1 == 0) = true := by
        have h := readVar_ok a (l.drop a) []
        have h2 : (readVar a [] (l.drop a)).2.2 = decide ((readVar a [] (l.drop a)).2.1 > 0) := by
          have := congrArg (fun z => z.2.2) h; exact this
        rw [h2] at hok
        simp only [decide_eq_false_iff_not] at hok
        have h3 := readVar_nonneg a (l.drop a) []
        simp only [beq_iff_eq]; omega
      simp only [hz, if_true, Bool.false_eq_true, false_and, if_false]
      rfl
    | true =>
      obtain ⟨x, hx, e1, e2, e3, e4⟩ := step_at hb ha hok
      have hp := putVar_pos x
      rw [e1, e2]
      have hz : ((((a + (putVar x).length : Nat) : Int)) == 0) = false := by simp only [beq_eq_false_iff_ne]; omega
      rw [hz]
      by_cases hbig : x ≤ 2000000000
      · simp only [show ¬ (x : Int) > 2000000000 by omega, show (x : Int) ≤ ((2000000000 : Nat) : Int) by omega, decide_false, Bool.false_eq_true, if_false, if_true, and_self, Int.toNat_natCast]
        rw [w64 (by omega) (by omega)]
      · simp only [show (x : Int) > 2000000000 by omega, show ¬ (x : Int) ≤ ((2000000000 : Nat) : Int) by omega, decide_true, Bool.false_eq_true, if_true, if_false, and_false]
        rfl
/-- some bytes -/
def rtk (l : List Int) (a : Nat) (b : Bool) (n : Nat) : List Int × Nat × Bool := if b = true then ([], a, true) else if a + n ≤ l.length then ((l.take (a + n)).drop a, a + n, false) else ([], a, true)
def rtxt (L : Nat) (l : List Int) (a : Nat) (b : Bool) : ByteArray × Nat × Bool := (strOfNums (rtk l (rnum L l a b).2.1 (rnum L l a b).2.2 (rnum L l a b).1).1, (rtk l (rnum L l a b).2.1 (rnum L l a b).2.2 (rnum L l a b).1).2)
theorem rtxt_bad (L : Nat) (l : List Int) (a : Nat) : (rtxt L l a true).2 = (a, true) := rfl
theorem bytesOf_strOfNums {M : List Int} (h : Bytes M) : bytesOf (strOfNums M) = M := by
  unfold bytesOf strOfNums
  simp only [List.map_map]
  have : ∀ x ∈ M, ((fun b : UInt8 => (b.toNat : Int)) ∘ fun n : Int => UInt8.ofNat n.toNat) x = x := by
    intro x hx
    have := h x hx
    simp only [Function.comp_apply, UInt8.toNat_ofNat']
    omega
  rw [List.map_congr_left this, List.map_id']
theorem rtxt_ok {l : List Int} (hb : Bytes l) {L a a2 : Nat} {s : ByteArray} (ha : a ≤ l.length) (h : rtxt L l a false = (s, a2, false)) : l.drop a = (putVar s.size ++ bytesOf s) ++ l.drop a2 ∧ a < a2 ∧ a2 ≤ l.length ∧ ∀ L2, s.size ≤ L2 → rtxt L2 l a false = (s, a2, false) := by
  unfold rtxt at h
  cases hr : rnum L l a false with
  | mk n p =>
    obtain ⟨a1, b1⟩ := p
    rw [hr] at h
    unfold rtk at h
    cases b1 with
    | true => simp at h
    | false =>
      simp only [Bool.false_eq_true, if_false] at h
      by_cases hle : a1 + n ≤ l.length
      · rw [if_pos hle] at h
        simp only [Prod.mk.injEq, and_true] at h
        obtain ⟨rfl, rfl⟩ := h
        obtain ⟨h1, h2, h3, h4, h5⟩ := rnum_ok hb ha hr
        have hM : Bytes ((l.take (a1 + n)).drop a1) := (hb.take _).drop _
        have hn : (strOfNums ((l.take (a1 + n)).drop a1)).size = n := by rw [strOfNums_size, List.length_drop, List.length_take]; omega
        refine ⟨?_, by omega, hle, fun L2 hL => ?_⟩
        · rw [hn, bytesOf_strOfNums hM, h2, List.append_assoc]
          congr 1
          rw [List.drop_take, show a1 + n - a1 = n by omega, show a1 + n = a1 + n from rfl, ← List.drop_drop, List.take_append_drop]
        · rw [hn] at hL
          unfold rtxt
          rw [h5 L2 hL]
          unfold rtk
          simp only [Bool.false_eq_true, if_false, if_pos hle]
      · rw [if_neg hle] at h
        simp at h
theorem rtk_at {l : List Int} {a n : Nat} {b : Bool} (ha : a ≤ l.length) : a ≤ (rtk l a b n).2.1 ∧ (rtk l a b n).2.1 ≤ l.length := by
  unfold rtk
  split
  · exact ⟨Nat.le_refl _, ha⟩
  · split
    · exact ⟨by simp only; omega, by simpa using by assumption⟩
    · exact ⟨Nat.le_refl _, ha⟩
theorem rtxt_at {l : List Int} (hb : Bytes l) (L a : Nat) (b : Bool) (ha : a ≤ l.length) : a ≤ (rtxt L l a b).2.1 ∧ (rtxt L l a b).2.1 ≤ l.length := by
  have h1 := rnum_at hb L a b ha
  have h2 := rtk_at (n := (rnum L l a b).1) (b := (rnum L l a b).2.2) h1.2.1
  exact ⟨Nat.le_trans h1.1 h2.1, h2.2⟩
theorem itk_eq (l : List Int) (hl : l.length ≤ 1048576) (a n : Nat) (b : Bool) (ha : a ≤ l.length) (hn : n ≤ 1000000000) : impl_ReadEdit.tk l (a : Int) b (n : Int) = some ((rtk l a b n).1, ((rtk l a b n).2.1 : Int), (rtk l a b n).2.2) := by
  unfold impl_ReadEdit.tk rtk
  cases b with
  | true => rfl
  | false =>
    simp only [Bool.false_eq_true, if_false]
    rw [w64 (by omega) (by omega), within_eq, Option.bind_some]
    by_cases h : a + n ≤ l.length
    · rw [if_pos h, if_pos (by simp only [decide_eq_true_eq]; omega), if_pos (by omega)]
      rw [show ((a : Int) + (n : Int)).toNat = a + n by omega, Int.toNat_natCast]
      simp
    · rw [if_neg h, if_neg (by simp only [decide_eq_true_eq]; omega)]
theorem stxt_ev (l : List Int) (hb : Bytes l) (hl : l.length ≤ 1048576) (a : Nat) (ha : a ≤ l.length) (b : Bool) : Ev (fun k => spec_ReadEdit.txt k l (a : Int) b) ((rtxt 2000000000 l a b).1, ((rtxt 2000000000 l a b).2.1 : Int), (rtxt 2000000000 l a b).2.2) := by
  unfold spec_ReadEdit.txt
  refine Ev.bind (snum_ev l hb hl a ha b) ?_
  have h1 := rnum_at hb 2000000000 a b ha
  unfold rtxt
  generalize rnum 2000000000 l a b = p at h1 ⊢
  obtain ⟨n, a1, b1⟩ := p
  simp only at h1 ⊢
  rw [if_pos (by omega)]
  refine Ev_cast (Ev.now _) ?_
  unfold rtk
  cases b1 with
  | true => rfl
  | false =>
    simp only [Bool.false_eq_true, if_false]
    rw [w64 (by omega) (by omega)]
    by_cases h : a1 + n ≤ l.length
    · rw [if_pos h, if_neg (by simp only [decide_eq_true_eq]; omega)]
      rw [show ((a1 : Int) + (n : Int)).toNat = a1 + n by omega, Int.toNat_natCast]
      simp
    · rw [if_neg h, if_pos (by simp only [decide_eq_true_eq]; omega)]
      rfl
/-- the drops -/
def rdrops (L : Nat) (l : List Int) : Nat → Nat → List Int → Nat → Bool → List Int × Nat × Bool
  | m + 1, q + 1, acc, a, false => rdrops L l m q (acc ++ [((rnum L l a false).1 : Int)]) (rnum L l a false).2.1 (rnum L l a false).2.2
  | _, _, acc, a, b => (acc, a, b)
theorem rdrops_bad (L : Nat) (l : List Int) (m q : Nat) (acc : List Int) (a : Nat) : rdrops L l m q acc a true = (acc, a, true) := by
  cases m <;> cases q <;> rfl
theorem rdrops_zero (L : Nat) (l : List Int) (m : Nat) (acc : List Int) (a : Nat) (b : Bool) : rdrops L l m 0 acc a b = (acc, a, b) := by cases m <;> rfl
theorem rdrops_ok {l : List Int} (hb : Bytes l) {L : Nat} : ∀ (m q : Nat) (acc : List Int) (a : Nat) (D : List Int) (a2 : Nat), a ≤ l.length → rdrops L l m q acc a false = (D, a2, false) →
    ∃ xs : List Int, D = acc ++ xs ∧ l.drop a = putL xs ++ l.drop a2 ∧ a + xs.length ≤ a2 ∧ a2 ≤ l.length ∧ (xs.length = q ∨ xs.length = m) ∧ ∀ (L2 m2 : Nat), (∀ x ∈ xs, x ≤ (L2 : Int)) → q ≤ m2 → xs.length = q → rdrops L2 l m2 q acc a false = (D, a2, false) := by
  intro m
  induction m with
  | zero =>
    intro q acc a D a2 ha h
    have h2 : (acc, a, false) = (D, a2, false) := by rw [← h]; cases q <;> rfl
    simp only [Prod.mk.injEq, and_true] at h2
    obtain ⟨rfl, rfl⟩ := h2
    refine ⟨[], by simp, by simp [putL], by simp, ha, .inr rfl, fun L2 m2 _ _ hq => ?_⟩
    have : q = 0 := by simpa using hq.symm
    subst this
    exact rdrops_zero _ _ _ _ _ _
  | succ m ih =>
    intro q acc a D a2 ha h
    cases q with
    | zero =>
      rw [rdrops_zero] at h
      simp only [Prod.mk.injEq, and_true] at h
      obtain ⟨rfl, rfl⟩ := h
      exact ⟨[], by simp, by simp [putL], by simp, ha, .inl rfl, fun L2 m2 _ _ _ => rdrops_zero _ _ _ _ _ _⟩
    | succ q =>
      simp only [rdrops] at h
      cases hr : rnum L l a false with
      | mk n p =>
        obtain ⟨a1, b1⟩ := p
        rw [hr] at h
        cases b1 with
        | true => rw [rdrops_bad] at h; simp at h
        | false =>
          simp only at h
          obtain ⟨h1, h2, h3, h4, h5⟩ := rnum_ok hb ha hr
          obtain ⟨xs, e1, e2, e3, e4, e5, e6⟩ := ih q _ a1 D a2 h4 h
          refine ⟨(n : Int) :: xs, by rw [e1]; simp, by rw [h2, e2]; simp [putL], by simp only [List.length_cons]; omega, e4, by simp only [List.length_cons]; omega, fun L2 m2 hL hq hx => ?_⟩
          cases m2 with
          | zero => omega
          | succ m2 =>
            have h6 := h5 L2 (by have := hL _ (List.mem_cons_self ..); omega)
            simp only [rdrops, h6]
            exact e6 L2 m2 (fun x hx => hL x (List.mem_cons_of_mem _ hx)) (by omega) (by simpa using hx)
theorem sdrops_ev (l : List Int) (hb : Bytes l) (hl : l.length ≤ 1048576) : ∀ (m q : Nat) (acc : List Int) (a : Nat) (b : Bool), a ≤ l.length → q ≤ 2000000000 → Ev (fun k => spec_ReadEdit.drops k l m (q : Int) acc (a : Int) b) ((rdrops 2000000000 l m q acc a b).1, ((rdrops 2000000000 l m q acc a b).2.1 : Int), (rdrops 2000000000 l m q acc a b).2.2) := by
  intro m
  induction m with
  | zero => intro q acc a b _ _; exact Ev_cast (Ev.now _) (by cases q <;> rfl)
  | succ m ih =>
    intro q acc a b ha hq
    simp only [spec_ReadEdit.drops]
    cases b with
    | true => rw [rdrops_bad]; simp only [Bool.not_true, Bool.and_false, Bool.false_eq_true, if_false]; exact Ev.now _
    | false =>
      cases q with
      | zero => rw [rdrops_zero]; exact Ev.now _
      | succ q =>
        simp only [show ((q + 1 : Nat) : Int) > 0 by omega, decide_true, Bool.not_false, Bool.and_self, if_true, rdrops]
        rw [show wrap64 (((q + 1 : Nat) : Int) - 1) = (q : Int) by rw [w64 (by omega) (by omega)]; omega]
        exact Ev.bind (snum_ev l hb hl a ha false) (ih q _ _ _ (rnum_at hb _ a false ha).2.1 (by omega))
theorem idrops_ev (l : List Int) (hb : Bytes l) (hl : l.length ≤ 1048576) : ∀ (m q : Nat) (acc : List Int) (a : Nat) (b : Bool), a ≤ l.length → q ≤ 1000000000 → 1 ≤ m → (b = false → l.length - a + 2 ≤ m) → Ev (fun k => impl_ReadEdit.drops k l m (q : Int) acc (a : Int) b) ((rdrops 1000000000 l m q acc a b).1, ((rdrops 1000000000 l m q acc a b).2.1 : Int), (rdrops 1000000000 l m q acc a b).2.2) := by
  intro m
  induction m with
  | zero => intro q acc a b _ _ h; omega
  | succ m ih =>
    intro q acc a b ha hq hm hbm
    simp only [impl_ReadEdit.drops]
    cases b with
    | true => rw [rdrops_bad]; simp only [Bool.not_true, Bool.and_false, Bool.false_eq_true, if_false]; exact Ev.now _
    | false =>
      cases q with
      | zero => rw [rdrops_zero]; exact Ev.now _
      | succ q =>
        have hbm2 := hbm rfl
        simp only [show ((q + 1 : Nat) : Int) > 0 by omega, decide_true, Bool.not_false, Bool.and_self, if_true, rdrops]
        rw [show wrap64 (((q + 1 : Nat) : Int) - 1) = (q : Int) by rw [w64 (by omega) (by omega)]; omega]
        have h1 := rnum_at hb 1000000000 a false ha
        exact Ev.bind (inum_ev l hb hl a ha false) (ih q _ _ _ h1.2.1 (by omega) (by omega) (fun h => by have := h1.2.2.2 h; omega))
/-- one add -/
def radd (L : Nat) (l : List Int) (a : Nat) : S75 × Nat × Bool :=
  let p1 := rnum L l a false
  let p2 := rnum L l p1.2.1 p1.2.2
  let p3 := rnum L l p2.2.1 p2.2.2
  let t4 := rtxt L l p3.2.1 p3.2.2
  let t5 := rtxt L l t4.2.1 t4.2.2
  (⟨(p1.1 : Int), ⟨(p2.1 : Int), t4.1, t5.1, (p3.1 : Int)⟩⟩, t5.2.1, t5.2.2)
theorem radd_at {l : List Int} (hb : Bytes l) (L a : Nat) (ha : a ≤ l.length) : a ≤ (radd L l a).2.1 ∧ (radd L l a).2.1 ≤ l.length := by
  have h1 := rnum_at hb L a false ha
  have h2 := rnum_at hb L _ (rnum L l a false).2.2 h1.2.1
  have h3 := rnum_at hb L _ (rnum L l (rnum L l a false).2.1 (rnum L l a false).2.2).2.2 h2.2.1
  have h4 := rtxt_at hb L _ (rnum L l (rnum L l (rnum L l a false).2.1 (rnum L l a false).2.2).2.1 (rnum L l (rnum L l a false).2.1 (rnum L l a false).2.2).2.2).2.2 h3.2.1
  have h5 := rtxt_at hb L _ (rtxt L l (rnum L l (rnum L l (rnum L l a false).2.1 (rnum L l a false).2.2).2.1 (rnum L l (rnum L l a false).2.1 (rnum L l a false).2.2).2.2).2.1 (rnum L l (rnum L l (rnum L l a false).2.1 (rnum L l a false).2.2).2.1 (rnum L l (rnum L l a false).2.1 (rnum L l a false).2.2).2.2).2.2).2.2 h4.2
  unfold radd
  exact ⟨by simp only; omega, h5.2⟩
theorem radd_ok {l : List Int} (hb : Bytes l) {L a a2 : Nat} {x : S75} (ha : a ≤ l.length) (h : radd L l a = (x, a2, false)) : l.drop a = addB x ++ l.drop a2 ∧ a < a2 ∧ a2 ≤ l.length ∧ (0 ≤ x.f0 ∧ 0 ≤ x.f1.f0 ∧ 0 ≤ x.f1.f3) ∧ ∀ L2 : Nat, x.f0 ≤ (L2 : Int) → x.f1.f0 ≤ (L2 : Int) → x.f1.f3 ≤ (L2 : Int) → x.f1.f1.size ≤ L2 → x.f1.f2.size ≤ L2 → radd L2 l a = (x, a2, false) := by
  unfold radd at h
  dsimp only at h
  rcases hp1 : rnum L l a false with ⟨n1, a1, b1⟩
  rw [hp1] at h
  cases b1 with
  | true => dsimp only at h; rw [rnum_bad] at h; dsimp only at h; rw [rnum_bad] at h; dsimp only at h; simp only [rtxt_bad, Prod.mk.injEq, and_false, Bool.true_eq_false] at h
  | false =>
    dsimp only at h
    obtain ⟨_, c2, c3, c4, c5⟩ := rnum_ok hb ha hp1
    rcases hp2 : rnum L l a1 false with ⟨n2, a3, b2⟩
    rw [hp2] at h
    cases b2 with
    | true => dsimp only at h; rw [rnum_bad] at h; dsimp only at h; simp only [rtxt_bad, Prod.mk.injEq, and_false, Bool.true_eq_false] at h
    | false =>
      dsimp only at h
      obtain ⟨_, d2, d3, d4, d5⟩ := rnum_ok hb c4 hp2
      rcases hp3 : rnum L l a3 false with ⟨n3, a4, b3⟩
      rw [hp3] at h
      cases b3 with
      | true => dsimp only at h; simp only [rtxt_bad, Prod.mk.injEq, and_false, Bool.true_eq_false] at h
      | false =>
        dsimp only at h
        obtain ⟨_, e2, e3, e4, e5⟩ := rnum_ok hb d4 hp3
        rcases hp4 : rtxt L l a4 false with ⟨s4, a5, b4⟩
        rw [hp4] at h
        cases b4 with
        | true => dsimp only at h; simp only [rtxt_bad, Prod.mk.injEq, and_false, Bool.true_eq_false] at h
        | false =>
          dsimp only at h
          obtain ⟨f2, f3, f4, f5⟩ := rtxt_ok hb e4 hp4
          rcases hp5 : rtxt L l a5 false with ⟨s5, a6, b5⟩
          rw [hp5] at h
          simp only [Prod.mk.injEq] at h
          obtain ⟨rfl, rfl, rfl⟩ := h
          obtain ⟨g2, g3, g4, g5⟩ := rtxt_ok hb f4 hp5
          refine ⟨?_, by omega, g4, ⟨by simp only; omega, by simp only; omega, by simp only; omega⟩, fun L2 k1 k2 k3 k4 k5 => ?_⟩
          · rw [c2, d2, e2, f2, g2]
            simp [addB, putL]
          · simp only at k1 k2 k3 k4 k5
            unfold radd
            simp only [c5 L2 (by omega), d5 L2 (by omega), e5 L2 (by omega), f5 L2 k4, g5 L2 k5]
def radds (L : Nat) (l : List Int) : Nat → Nat → List S75 → Nat → Bool → List S75 × Nat × Bool
  | m + 1, q + 1, acc, a, false => radds L l m q (acc ++ [(radd L l a).1]) (radd L l a).2.1 (radd L l a).2.2
  | _, _, acc, a, b => (acc, a, b)
theorem radds_bad (L : Nat) (l : List Int) (m q : Nat) (acc : List S75) (a : Nat) : radds L l m q acc a true = (acc, a, true) := by
  cases m <;> cases q <;> rfl
theorem radds_zero (L : Nat) (l : List Int) (m : Nat) (acc : List S75) (a : Nat) (b : Bool) : radds L l m 0 acc a b = (acc, a, b) := by cases m <;> rfl
def withinL (L2 : Nat) (x : S75) : Prop := x.f0 ≤ (L2 : Int) ∧ x.f1.f0 ≤ (L2 : Int) ∧ x.f1.f3 ≤ (L2 : Int) ∧ x.f1.f1.size ≤ L2 ∧ x.f1.f2.size ≤ L2
theorem radds_ok {l : List Int} (hb : Bytes l) {L : Nat} : ∀ (m q : Nat) (acc : List S75) (a : Nat) (D : List S75) (a2 : Nat), a ≤ l.length → radds L l m q acc a false = (D, a2, false) →
    ∃ xs : List S75, D = acc ++ xs ∧ l.drop a = (xs.map addB).flatten ++ l.drop a2 ∧ a + xs.length ≤ a2 ∧ a2 ≤ l.length ∧ (xs.length = q ∨ xs.length = m) ∧ ∀ (L2 m2 : Nat), (∀ x ∈ xs, withinL L2 x) → q ≤ m2 → xs.length = q → radds L2 l m2 q acc a false = (D, a2, false) := by
  intro m
  induction m with
  | zero =>
    intro q acc a D a2 ha h
    have h2 : (acc, a, false) = (D, a2, false) := by rw [← h]; cases q <;> rfl
    simp only [Prod.mk.injEq, and_true] at h2
    obtain ⟨rfl, rfl⟩ := h2
    refine ⟨[], by simp, by simp, by simp, ha, .inr rfl, fun L2 m2 _ _ hq => ?_⟩
    have : q = 0 := by simpa using hq.symm
    subst this
    exact radds_zero _ _ _ _ _ _
  | succ m ih =>
    intro q acc a D a2 ha h
    cases q with
    | zero =>
      rw [radds_zero] at h
      simp only [Prod.mk.injEq, and_true] at h
      obtain ⟨rfl, rfl⟩ := h
      exact ⟨[], by simp, by simp, by simp, ha, .inl rfl, fun L2 m2 _ _ _ => radds_zero _ _ _ _ _ _⟩
    | succ q =>
      simp only [radds] at h
      cases hr : radd L l a with
      | mk n p =>
        obtain ⟨a1, b1⟩ := p
        rw [hr] at h
        cases b1 with
        | true => rw [radds_bad] at h; simp at h
        | false =>
          simp only at h
          obtain ⟨h2, h3, h4, _, h5⟩ := radd_ok hb ha hr
          obtain ⟨xs, e1, e2, e3, e4, e5, e6⟩ := ih q _ a1 D a2 h4 h
          refine ⟨n :: xs, by rw [e1]; simp, by rw [h2, e2]; simp, by simp only [List.length_cons]; omega, e4, by simp only [List.length_cons]; omega, fun L2 m2 hL hq hx => ?_⟩
          cases m2 with
          | zero => omega
          | succ m2 =>
            obtain ⟨l1, l2, l3, l4, l5⟩ := hL _ (List.mem_cons_self ..)
            have h6 := h5 L2 l1 l2 l3 l4 l5
            simp only [radds, h6]
            exact e6 L2 m2 (fun x hx => hL x (List.mem_cons_of_mem _ hx)) (by omega) (by simpa using hx)
theorem sadds_ev (l : List Int) (hb : Bytes l) (hl : l.length ≤ 1048576) : ∀ (m q : Nat) (acc : List S75) (a : Nat) (b : Bool), a ≤ l.length → q ≤ 2000000000 → Ev (fun k => spec_ReadEdit.adds k l m (q : Int) acc (a : Int) b) ((radds 2000000000 l m q acc a b).1, ((radds 2000000000 l m q acc a b).2.1 : Int), (radds 2000000000 l m q acc a b).2.2) := by
  intro m
  induction m with
  | zero => intro q acc a b _ _; exact Ev_cast (Ev.now _) (by cases q <;> rfl)
  | succ m ih =>
    intro q acc a b ha hq
    simp only [spec_ReadEdit.adds]
    cases b with
    | true => rw [radds_bad]; simp only [Bool.not_true, Bool.and_false, Bool.false_eq_true, if_false]; exact Ev.now _
    | false =>
      cases q with
      | zero => rw [radds_zero]; exact Ev.now _
      | succ q =>
        simp only [show ((q + 1 : Nat) : Int) > 0 by omega, decide_true, Bool.not_false, Bool.and_self, if_true, radds]
        rw [show wrap64 (((q + 1 : Nat) : Int) - 1) = (q : Int) by rw [w64 (by omega) (by omega)]; omega]
        have h1 := rnum_at hb 2000000000 a false ha
        refine Ev.bind (snum_ev l hb hl a ha false) ?_
        have h2 := rnum_at hb 2000000000 _ (rnum 2000000000 l a false).2.2 h1.2.1
        refine Ev.bind (snum_ev l hb hl _ h1.2.1 _) ?_
        have h3 := rnum_at hb 2000000000 _ (rnum 2000000000 l (rnum 2000000000 l a false).2.1 (rnum 2000000000 l a false).2.2).2.2 h2.2.1
        refine Ev.bind (snum_ev l hb hl _ h2.2.1 _) ?_
        refine Ev.bind (stxt_ev l hb hl _ h3.2.1 _) ?_
        refine Ev.bind (stxt_ev l hb hl _ (rtxt_at hb _ _ _ h3.2.1).2 _) ?_
        exact ih q _ _ _ (radd_at hb _ a ha).2 (by omega)
theorem iadds_ev (l : List Int) (hb : Bytes l) (hl : l.length ≤ 1048576) : ∀ (m q : Nat) (acc : List S75) (a : Nat) (b : Bool), a ≤ l.length → q ≤ 1000000000 → 1 ≤ m → (b = false → l.length - a + 2 ≤ m) → Ev (fun k => impl_ReadEdit.adds k l m (q : Int) acc (a : Int) b) ((radds 1000000000 l m q acc a b).1, ((radds 1000000000 l m q acc a b).2.1 : Int), (radds 1000000000 l m q acc a b).2.2) := by
  intro m
  induction m with
  | zero => intro q acc a b _ _ h; omega
  | succ m ih =>
    intro q acc a b ha hq hm hbm
    simp only [impl_ReadEdit.adds]
    cases b with
    | true => rw [radds_bad]; simp only [Bool.not_true, Bool.and_false, Bool.false_eq_true, if_false]; exact Ev.now _
    | false =>
      cases q with
      | zero => rw [radds_zero]; exact Ev.now _
      | succ q =>
        have hbm2 := hbm rfl
        simp only [show ((q + 1 : Nat) : Int) > 0 by omega, decide_true, Bool.not_false, Bool.and_self, if_true, radds]
        rw [show wrap64 (((q + 1 : Nat) : Int) - 1) = (q : Int) by rw [w64 (by omega) (by omega)]; omega]
        have h1 := rnum_at hb 1000000000 a false ha
        refine Ev.bind (inum_ev l hb hl a ha false) ?_
        have h2 := rnum_at hb 1000000000 _ (rnum 1000000000 l a false).2.2 h1.2.1
        refine Ev.bind (inum_ev l hb hl _ h1.2.1 _) ?_
        have h3 := rnum_at hb 1000000000 _ (rnum 1000000000 l (rnum 1000000000 l a false).2.1 (rnum 1000000000 l a false).2.2).2.2 h2.2.1
        refine Ev.bind (inum_ev l hb hl _ h2.2.1 _) ?_
        have h4 := rnum_at hb 1000000000 _ (rnum 1000000000 l (rnum 1000000000 l (rnum 1000000000 l a false).2.1 (rnum 1000000000 l a false).2.2).2.1 (rnum 1000000000 l (rnum 1000000000 l a false).2.1 (rnum 1000000000 l a false).2.2).2.2).2.2 h3.2.1
        refine Ev.bind (inum_ev l hb hl _ h3.2.1 _) ?_
        refine Ev.bind (Ev_some (itk_eq l hl _ _ _ h4.2.1 h4.2.2.1)) ?_
        have h5 := rtxt_at hb 1000000000 _ (rnum 1000000000 l (rnum 1000000000 l (rnum 1000000000 l a false).2.1 (rnum 1000000000 l a false).2.2).2.1 (rnum 1000000000 l (rnum 1000000000 l a false).2.1 (rnum 1000000000 l a false).2.2).2.2).2.2 h3.2.1
        refine Ev.bind (inum_ev l hb hl _ h5.2 _) ?_
        have h6 := rnum_at hb 1000000000 _ (rtxt 1000000000 l (rnum 1000000000 l (rnum 1000000000 l (rnum 1000000000 l a false).2.1 (rnum 1000000000 l a false).2.2).2.1 (rnum 1000000000 l (rnum 1000000000 l a false).2.1 (rnum 1000000000 l a false).2.2).2.2).2.1 (rnum 1000000000 l (rnum 1000000000 l (rnum 1000000000 l a false).2.1 (rnum 1000000000 l a false).2.2).2.1 (rnum 1000000000 l (rnum 1000000000 l a false).2.1 (rnum 1000000000 l a false).2.2).2.2).2.2).2.2 h5.2
        refine Ev.bind (Ev_some (itk_eq l hl _ _ _ h6.2.1 h6.2.2.1)) ?_
        refine ih q _ _ _ (radd_at hb _ a ha).2 (by omega) (by omega) (fun h => ?_)
        have h7 : radd 1000000000 l a = ((radd 1000000000 l a).1, (radd 1000000000 l a).2.1, false) := by rw [← h]; rfl
        have h8 := (radd_ok hb ha h7).2.1
        have h9 := (radd_at hb 1000000000 a ha).2
        clear h1 h2 h3 h4 h5 h6
        show l.length - (radd 1000000000 l a).2.1 + 2 ≤ m
        omega
theorem rdrops_at {l : List Int} (hb : Bytes l) (L : Nat) : ∀ (m q : Nat) (acc : List Int) (a : Nat) (b : Bool), a ≤ l.length → (rdrops L l m q acc a b).2.1 ≤ l.length ∧ (rdrops L l m q acc a b).1.length ≤ acc.length + m := by
  intro m
  induction m with
  | zero => intro q acc a b ha; cases q <;> exact ⟨ha, by simp [rdrops]⟩
  | succ m ih =>
    intro q acc a b ha
    cases b with
    | true => rw [rdrops_bad]; exact ⟨ha, by simp only; omega⟩
    | false =>
      cases q with
      | zero => rw [rdrops_zero]; exact ⟨ha, by simp only; omega⟩
      | succ q =>
        have := ih q (acc ++ [((rnum L l a false).1 : Int)]) (rnum L l a false).2.1 (rnum L l a false).2.2 (rnum_at hb L a false ha).2.1
        rw [List.length_append] at this
        simp only [rdrops, List.length_cons, List.length_nil] at this ⊢
        exact ⟨this.1, by omega⟩
theorem radds_at {l : List Int} (hb : Bytes l) (L : Nat) : ∀ (m q : Nat) (acc : List S75) (a : Nat) (b : Bool), a ≤ l.length → (radds L l m q acc a b).2.1 ≤ l.length ∧ (radds L l m q acc a b).1.length ≤ acc.length + m := by
  intro m
  induction m with
  | zero => intro q acc a b ha; cases q <;> exact ⟨ha, by simp [radds]⟩
  | succ m ih =>
    intro q acc a b ha
    cases b with
    | true => rw [radds_bad]; exact ⟨ha, by simp only; omega⟩
    | false =>
      cases q with
      | zero => rw [radds_zero]; exact ⟨ha, by simp only; omega⟩
      | succ q =>
        have := ih q (acc ++ [(radd L l a).1]) (radd L l a).2.1 (radd L l a).2.2 (radd_at hb L a ha).2
        rw [List.length_append] at this
        simp only [radds, List.length_cons, List.length_nil] at this ⊢
        exact ⟨this.1, by omega⟩
theorem putL_bytes : ∀ l : List Int, Bytes (putL l)
  | [] => Bytes.nil
  | n :: t => by
    have := putL_bytes t
    unfold putL at this ⊢
    rw [List.map_cons, List.flatten_cons]
    exact Bytes.app (putVar_bytes _) this
theorem bytesOf_bytes (s : ByteArray) : Bytes (bytesOf s) := by
  intro x hx
  unfold bytesOf at hx
  obtain ⟨b, _, rfl⟩ := List.mem_map.1 hx
  have := b.toNat_lt
  omega
theorem addB_bytes (x : S75) : Bytes (addB x) := Bytes.app (Bytes.app (putL_bytes _) (Bytes.app (putVar_bytes _) (bytesOf_bytes _))) (Bytes.app (putVar_bytes _) (bytesOf_bytes _))
theorem addsB_bytes : ∀ l : List S75, Bytes ((l.map addB).flatten)
  | [] => Bytes.nil
  | x :: t => by rw [List.map_cons, List.flatten_cons]; exact Bytes.app (addB_bytes x) (addsB_bytes t)
theorem editB_bytes (n1 n2 n3 : Int) (d : List Int) (l : List S75) : Bytes (editB n1 n2 n3 d l) := Bytes.app (Bytes.app (Bytes.app (putL_bytes _) (putL_bytes _)) (putL_bytes _)) (addsB_bytes _)
def run (L m : Nat) (l : List Int) : Nat × Nat × Nat × List Int × List S75 × Nat × Bool :=
  let p1 := rnum L l 0 false
  let p2 := rnum L l p1.2.1 p1.2.2
  let p3 := rnum L l p2.2.1 p2.2.2
  let q1 := rnum L l p3.2.1 p3.2.2
  let d := rdrops L l m q1.1 [] q1.2.1 q1.2.2
  let q2 := rnum L l d.2.1 d.2.2
  let A := radds L l m q2.1 [] q2.2.1 q2.2.2
  (p1.1, p2.1, p3.1, d.1, A.1, A.2.1, A.2.2)
theorem fileOk_le {x : Int} (h : fileOk x = true) : 1 ≤ x ∧ x ≤ 100000 := by simpa [fileOk] using h
theorem addOk_le {x : S75} (h : addOk x = true) {L : Nat} (hL : 1000000000 ≤ L) : withinL L x := by
  unfold addOk metaOk at h
  simp only [Bool.and_eq_true, decide_eq_true_eq] at h
  obtain ⟨a1, ⟨⟨⟨a2, a3⟩, a4⟩, a5⟩, a6⟩ := h
  exact ⟨by omega, by omega, by omega, by omega, by omega⟩
/-- where a good edit is read, its bytes stand there; and it is read whatever the limits, when these are not too small -/
theorem run_ok {l : List Int} (hb : Bytes l) {L m : Nat} (hm : 24 < m ∨ l.length < m) {n1 n2 n3 : Nat} {D : List Int} {A : List S75} {at_ : Nat} (h : run L m l = (n1, n2, n3, D, A, at_, false)) (hg : goodE n1 n2 n3 D A = true) :
    l = editB n1 n2 n3 D A ++ l.drop at_ ∧ at_ ≤ l.length ∧ ∀ L2 m2 : Nat, 1000000000 ≤ L2 → 24 < m2 ∨ l.length < m2 → run L2 m2 l = (n1, n2, n3, D, A, at_, false) := by
  unfold run at h
  dsimp only at h
  rcases hp1 : rnum L l 0 false with ⟨x1, a1, b1⟩
  rw [hp1] at h
  dsimp only at h
  cases b1 with
  | true => simp only [rnum_bad, rdrops_bad, radds_bad, Prod.mk.injEq, and_false, Bool.true_eq_false] at h
  | false =>
    obtain ⟨_, c2, c3, c4, c5⟩ := rnum_ok hb (Nat.zero_le _) hp1
    rcases hp2 : rnum L l a1 false with ⟨x2, a2, b2⟩
    rw [hp2] at h
    dsimp only at h
    cases b2 with
    | true => simp only [rnum_bad, rdrops_bad, radds_bad, Prod.mk.injEq, and_false, Bool.true_eq_false] at h
    | false =>
      obtain ⟨_, d2, d3, d4, d5⟩ := rnum_ok hb c4 hp2
      rcases hp3 : rnum L l a2 false with ⟨x3, a3, b3⟩
      rw [hp3] at h
      dsimp only at h
      cases b3 with
      | true => simp only [rnum_bad, rdrops_bad, radds_bad, Prod.mk.injEq, and_false, Bool.true_eq_false] at h
      | false =>
        obtain ⟨_, e2, e3, e4, e5⟩ := rnum_ok hb d4 hp3
        rcases hp4 : rnum L l a3 false with ⟨q1, a4, b4⟩
        rw [hp4] at h
        dsimp only at h
        cases b4 with
        | true => simp only [rnum_bad, rdrops_bad, radds_bad, Prod.mk.injEq, and_false, Bool.true_eq_false] at h
        | false =>
          obtain ⟨_, f2, f3, f4, f5⟩ := rnum_ok hb e4 hp4
          rcases hp5 : rdrops L l m q1 [] a4 false with ⟨D', a5, b5⟩
          rw [hp5] at h
          dsimp only at h
          cases b5 with
          | true => simp only [rnum_bad, radds_bad, Prod.mk.injEq, and_false, Bool.true_eq_false] at h
          | false =>
            obtain ⟨xs, g1, g2, g3, g4, g5, g6⟩ := rdrops_ok hb m q1 [] a4 D' a5 f4 hp5
            rcases hp6 : rnum L l a5 false with ⟨q2, a6, b6⟩
            rw [hp6] at h
            dsimp only at h
            cases b6 with
            | true => simp only [radds_bad, Prod.mk.injEq, and_false, Bool.true_eq_false] at h
            | false =>
              obtain ⟨_, i2, i3, i4, i5⟩ := rnum_ok hb g4 hp6
              rcases hp7 : radds L l m q2 [] a6 false with ⟨A', a7, b7⟩
              rw [hp7] at h
              simp only [Prod.mk.injEq] at h
              obtain ⟨rfl, rfl, rfl, rfl, rfl, rfl, rfl⟩ := h
              obtain ⟨ys, j1, j2, j3, j4, j5, j6⟩ := radds_ok hb m q2 [] a6 A' a7 i4 hp7
              rw [List.nil_append] at g1 j1
              subst g1
              subst j1
              have hgood := hg
              unfold goodE at hg
              simp only [Bool.and_eq_true, decide_eq_true_eq] at hg
              obtain ⟨k1, k2, k3, k4, k5, k6, k7⟩ := hg
              have k1 := fileOk_le k1
              have k2 := fileOk_le k2
              have hq1 : D'.length = q1 := by omega
              have hq2 : A'.length = q2 := by omega
              refine ⟨?_, j4, fun L2 m2 hL hm2 => ?_⟩
              · unfold editB
                have e0 : l = l.drop 0 := rfl
                rw [hq1, hq2]
                conv => lhs; rw [e0, c2, d2, e2, f2, g2, i2, j2]
                simp [putL]
              · unfold run
                simp only [c5 L2 (by omega), d5 L2 (by omega), e5 L2 (by omega), f5 L2 (by omega), g6 L2 m2 (fun x hx => by have := fileOk_le (List.all_eq_true.1 k6 x hx); omega) (by omega) hq1, i5 L2 (by omega), j6 L2 m2 (fun x hx => addOk_le (List.all_eq_true.1 k7 x hx) hL) (by omega) hq2]
abbrev zeroEdit : Int × Int × Int × List Int × List S75 × Bool := (0, 0, 0, [], [], false)
/-- what both answer -/
def readER (l : List Int) : Int × Int × Int × List Int × List S75 × Bool :=
  let r := run 2000000000 30 l
  if r.2.2.2.2.2.2 = false ∧ ¬ r.2.2.2.2.2.1 < l.length ∧ goodE r.1 r.2.1 r.2.2.1 r.2.2.2.1 r.2.2.2.2.1 = true then ((r.1 : Int), (r.2.1 : Int), (r.2.2.1 : Int), r.2.2.2.1, r.2.2.2.2.1, true) else zeroEdit
def readEI (l : List Int) : Int × Int × Int × List Int × List S75 × Bool :=
  let r := run 1000000000 (l.length + 2) l
  if r.2.2.2.2.2.2 = false ∧ goodE r.1 r.2.1 r.2.2.1 r.2.2.2.1 r.2.2.2.2.1 = true ∧ editB r.1 r.2.1 r.2.2.1 r.2.2.2.1 r.2.2.2.2.1 = l then ((r.1 : Int), (r.2.1 : Int), (r.2.2.1 : Int), r.2.2.2.1, r.2.2.2.2.1, true) else zeroEdit
theorem readE_eq {l : List Int} (hb : Bytes l) : readEI l = readER l := by
  unfold readEI readER
  dsimp only
  by_cases hs : (run 2000000000 30 l).2.2.2.2.2.2 = false ∧ ¬ (run 2000000000 30 l).2.2.2.2.2.1 < l.length ∧ goodE (run 2000000000 30 l).1 (run 2000000000 30 l).2.1 (run 2000000000 30 l).2.2.1 (run 2000000000 30 l).2.2.2.1 (run 2000000000 30 l).2.2.2.2.1 = true
  · rw [if_pos hs]
    rcases hr : run 2000000000 30 l with ⟨n1, n2, n3, D, A, at_, b⟩
    rw [hr] at hs
    dsimp only at hs ⊢
    obtain ⟨rfl, h2, h3⟩ := hs
    obtain ⟨e1, e2, e3⟩ := run_ok hb (Or.inl (by omega)) hr h3
    have h4 := e3 1000000000 (l.length + 2) (Nat.le_refl _) (Or.inr (by omega))
    rw [h4]
    dsimp only
    rw [List.drop_eq_nil_of_le (by omega), List.append_nil] at e1
    rw [if_pos ⟨rfl, h3, e1.symm⟩]
  · rw [if_neg hs]
    by_cases hi : (run 1000000000 (l.length + 2) l).2.2.2.2.2.2 = false ∧ goodE (run 1000000000 (l.length + 2) l).1 (run 1000000000 (l.length + 2) l).2.1 (run 1000000000 (l.length + 2) l).2.2.1 (run 1000000000 (l.length + 2) l).2.2.2.1 (run 1000000000 (l.length + 2) l).2.2.2.2.1 = true ∧ editB (run 1000000000 (l.length + 2) l).1 (run 1000000000 (l.length + 2) l).2.1 (run 1000000000 (l.length + 2) l).2.2.1 (run 1000000000 (l.length + 2) l).2.2.2.1 (run 1000000000 (l.length + 2) l).2.2.2.2.1 = l
    · exfalso
      rcases hr : run 1000000000 (l.length + 2) l with ⟨n1, n2, n3, D, A, at_, b⟩
      rw [hr] at hi
      dsimp only at hi
      obtain ⟨rfl, h3, h4⟩ := hi
      obtain ⟨e1, e2, e3⟩ := run_ok hb (Or.inr (by omega)) hr h3
      rw [h4] at e1
      have h5 := e3 2000000000 30 (by omega) (Or.inl (by omega))
      rw [h5] at hs
      refine hs ⟨rfl, ?_, h3⟩
      have := congrArg List.length e1
      rw [List.length_append, List.length_drop] at this
      simp only
      omega
    · rw [if_neg hi]
theorem spec_ReadEdit_ev (l : List Int) (hb : Bytes l) (hl : l.length ≤ 1048576) : Ev (fun k => spec_ReadEdit.f k l) (readER l) := by
  unfold spec_ReadEdit.f readER run
  dsimp only
  have h1 := rnum_at hb 2000000000 0 false (Nat.zero_le _)
  have h2 := rnum_at hb 2000000000 _ (rnum 2000000000 l 0 false).2.2 h1.2.1
  have hE1 := snum_ev l hb hl 0 (Nat.zero_le _) false
  have hE2 := snum_ev l hb hl _ h1.2.1 (rnum 2000000000 l 0 false).2.2
  generalize rnum 2000000000 l 0 false = p1 at h1 h2 hE1 hE2 ⊢
  have hE3 := snum_ev l hb hl _ h2.2.1 (rnum 2000000000 l p1.2.1 p1.2.2).2.2
  have h3 := rnum_at hb 2000000000 _ (rnum 2000000000 l p1.2.1 p1.2.2).2.2 h2.2.1
  generalize rnum 2000000000 l p1.2.1 p1.2.2 = p2 at h2 h3 hE2 hE3 ⊢
  have hE4 := snum_ev l hb hl _ h3.2.1 (rnum 2000000000 l p2.2.1 p2.2.2).2.2
  have h4 := rnum_at hb 2000000000 _ (rnum 2000000000 l p2.2.1 p2.2.2).2.2 h3.2.1
  generalize rnum 2000000000 l p2.2.1 p2.2.2 = p3 at h3 h4 hE3 hE4 ⊢
  have hE5 := sdrops_ev l hb hl 30 (rnum 2000000000 l p3.2.1 p3.2.2).1 [] _ (rnum 2000000000 l p3.2.1 p3.2.2).2.2 h4.2.1 h4.2.2.1
  generalize rnum 2000000000 l p3.2.1 p3.2.2 = q1 at h4 hE4 hE5 ⊢
  have hd := rdrops_at hb 2000000000 30 q1.1 [] q1.2.1 q1.2.2 h4.2.1
  generalize hD : rdrops 2000000000 l 30 q1.1 [] q1.2.1 q1.2.2 = d at hE5 hd ⊢
  have hE6 := snum_ev l hb hl _ hd.1 d.2.2
  have h6 := rnum_at hb 2000000000 _ d.2.2 hd.1
  have hE7 := sadds_ev l hb hl 30 (rnum 2000000000 l d.2.1 d.2.2).1 [] _ (rnum 2000000000 l d.2.1 d.2.2).2.2 h6.2.1 h6.2.2.1
  generalize rnum 2000000000 l d.2.1 d.2.2 = q2 at h6 hE6 hE7 ⊢
  have ha := radds_at hb 2000000000 30 q2.1 [] q2.2.1 q2.2.2 h6.2.1
  generalize radds 2000000000 l 30 q2.1 [] q2.2.1 q2.2.2 = A at hE7 ha ⊢
  refine Ev.bind hE1 (Ev.bind hE2 (Ev.bind hE3 (Ev.bind hE4 (Ev.bind hE5 (Ev.bind hE6 (Ev.bind hE7 ?_))))))
  unfold spec_ReadEdit.g
  dsimp only
  cases hbad : A.2.2 with
  | true => simp only [if_true, Bool.true_eq_false, false_and, if_false]; exact Ev.now _
  | false =>
    simp only [Bool.false_eq_true, if_false, true_and]
    by_cases hlt : A.2.1 < l.length
    · rw [if_neg (fun h => h.1 hlt)]
      simp only [show (A.2.1 : Int) < (l.length : Int) by omega, decide_true, if_true]
      exact Ev.now _
    · simp only [show ¬ (A.2.1 : Int) < (l.length : Int) by omega, decide_false, Bool.false_eq_true, if_false]
      have hdl : d.1.length ≤ 1048576 := by have := hd.2; simp only [List.length_nil] at this; omega
      have hal : A.1.length ≤ 1048576 := by have := ha.2; simp only [List.length_nil] at this; omega
      refine Ev.bind (spec_goodE _ _ _ d.1 A.1 hal hdl) ?_
      cases hg : goodE (p1.1 : Int) (p2.1 : Int) (p3.1 : Int) d.1 A.1 with
      | true => simp only [if_true, and_true]; rw [if_pos hlt]; exact Ev.now _
      | false => simp only [Bool.false_eq_true, if_false, and_false]; exact Ev.now _
theorem impl_ReadEdit_ev (l : List Int) (hb : Bytes l) (hl : l.length ≤ 1048576) : Ev (fun k => impl_ReadEdit.f k l) (readEI l) := by
  unfold impl_ReadEdit.f readEI run
  dsimp only
  have h1 := rnum_at hb 1000000000 0 false (Nat.zero_le _)
  have h2 := rnum_at hb 1000000000 _ (rnum 1000000000 l 0 false).2.2 h1.2.1
  have hE1 := inum_ev l hb hl 0 (Nat.zero_le _) false
  have hE2 := inum_ev l hb hl _ h1.2.1 (rnum 1000000000 l 0 false).2.2
  generalize rnum 1000000000 l 0 false = p1 at h1 h2 hE1 hE2 ⊢
  have hE3 := inum_ev l hb hl _ h2.2.1 (rnum 1000000000 l p1.2.1 p1.2.2).2.2
  have h3 := rnum_at hb 1000000000 _ (rnum 1000000000 l p1.2.1 p1.2.2).2.2 h2.2.1
  generalize rnum 1000000000 l p1.2.1 p1.2.2 = p2 at h2 h3 hE2 hE3 ⊢
  have hE4 := inum_ev l hb hl _ h3.2.1 (rnum 1000000000 l p2.2.1 p2.2.2).2.2
  have h4 := rnum_at hb 1000000000 _ (rnum 1000000000 l p2.2.1 p2.2.2).2.2 h3.2.1
  generalize rnum 1000000000 l p2.2.1 p2.2.2 = p3 at h3 h4 hE3 hE4 ⊢
  have hE5 := idrops_ev l hb hl (l.length + 2) (rnum 1000000000 l p3.2.1 p3.2.2).1 [] _ (rnum 1000000000 l p3.2.1 p3.2.2).2.2 h4.2.1 h4.2.2.1 (by omega) (fun _ => by omega)
  generalize rnum 1000000000 l p3.2.1 p3.2.2 = q1 at h4 hE4 hE5 ⊢
  have hd := rdrops_at hb 1000000000 (l.length + 2) q1.1 [] q1.2.1 q1.2.2 h4.2.1
  generalize hD : rdrops 1000000000 l (l.length + 2) q1.1 [] q1.2.1 q1.2.2 = d at hE5 hd ⊢
  have hE6 := inum_ev l hb hl _ hd.1 d.2.2
  have h6 := rnum_at hb 1000000000 _ d.2.2 hd.1
  have hE7 := iadds_ev l hb hl (l.length + 2) (rnum 1000000000 l d.2.1 d.2.2).1 [] _ (rnum 1000000000 l d.2.1 d.2.2).2.2 h6.2.1 h6.2.2.1 (by omega) (fun _ => by omega)
  generalize rnum 1000000000 l d.2.1 d.2.2 = q2 at h6 hE6 hE7 ⊢
  have ha := radds_at hb 1000000000 (l.length + 2) q2.1 [] q2.2.1 q2.2.2 h6.2.1
  generalize radds 1000000000 l (l.length + 2) q2.1 [] q2.2.1 q2.2.2 = A at hE7 ha ⊢
  simp only [if_pos (show l.length ≤ 1099511627776 by omega)]
  refine Ev.bind hE1 (Ev.bind hE2 (Ev.bind hE3 (Ev.bind hE4 (Ev.bind hE5 (Ev.bind hE6 (Ev.bind hE7 ?_))))))
  unfold impl_ReadEdit.g
  dsimp only
  cases hbad : A.2.2 with
  | true => simp only [if_true, Bool.true_eq_false, false_and, if_false]; exact Ev.now _
  | false =>
    simp only [Bool.false_eq_true, if_false, true_and]
    have hdl : d.1.length ≤ 1048580 := by have := hd.2; simp only [List.length_nil] at this; omega
    have hal : A.1.length ≤ 1048580 := by have := ha.2; simp only [List.length_nil] at this; omega
    refine Ev.bind (impl_goodE2 _ _ _ d.1 A.1 (by omega) (by omega)) ?_
    cases hg : goodE (p1.1 : Int) (p2.1 : Int) (p3.1 : Int) d.1 A.1 with
    | false => simp only [Bool.false_eq_true, if_false, false_and]; exact Ev.now _
    | true =>
      simp only [if_true, true_and]
      have hf := FineE.of_good hg
      refine Ev.bind (impl_editB_ev hf) ?_
      refine Ev.bind (Ev_some (by unfold bytes_Equal.f; rw [strOfNums_eq _ _ (editB_bytes _ _ _ _ _) hb])) ?_
      by_cases he : editB (p1.1 : Int) (p2.1 : Int) (p3.1 : Int) d.1 A.1 = l
      · simp only [decide_eq_true he, if_true]
        rw [if_pos he]
        exact Ev.now _
      · simp only [decide_eq_false he, Bool.false_eq_true, if_false]
        rw [if_neg he]
        exact Ev.now _
theorem readER_len (l : List Int) : (readER l).2.2.2.1.length ≤ 1048576 ∧ (readER l).2.2.2.2.1.length ≤ 1000000 := by
  unfold readER
  dsimp only
  split
  · rename_i h
    have hf := FineE.of_good h.2.2
    exact ⟨by have := hf.nd; simp only; omega, by have := hf.nl; simp only; omega⟩
  · exact ⟨by simp, by simp⟩
theorem FnExactReadEdit : laws_FnExactReadEdit.Pure := by
  intro l h
  obtain ⟨_, hw⟩ := h
  have hb : Bytes l := Bytes.wf hw
  refine Ev.rounds ?_
  unfold laws_FnExactReadEdit.f
  by_cases hl : 1048576 < (l.length : Int)
  · simp only [if_pos hl]; exact Ev.now _
  · simp only [if_neg hl]
    have hl2 : l.length ≤ 1048576 := by omega
    have hT := toByteS_ev l (by omega)
    have hS := spec_ReadEdit_ev l hb hl2
    have hI := impl_ReadEdit_ev l hb hl2
    rw [readE_eq hb] at hI
    have hlen := readER_len l
    generalize readER l = r at hS hI hlen
    have hEq := eqEdit_same r.1 r.2.1 r.2.2.1 r.2.2.2.1 r.2.2.2.2.1 hlen.1 (by omega)
    obtain ⟨p, hM, hp, hH⟩ := markEdit_both r.1 r.2.1 r.2.2.1 r.2.2.2.1 r.2.2.2.2.1 hlen.1 hlen.2
    refine Ev.bind hT (Ev.bind hS (Ev.bind hT (Ev.bind hI (Ev.bind hEq (Ev.bind hT (Ev.bind (eqByteS_same l l (by omega) rfl) ?_))))))
    refine Ev.bind (markByteS_ev l 1 (by omega) (by omega) (by omega)) ?_
    refine Ev.bind hEq (Ev.bind hM (Ev.bind hH (Ev.bind hT (Ev.bind hI (Ev.bind hEq (Ev.bind hH ?_))))))
    exact Ev_some (if_pos ⟨rfl, rfl, rfl, by simp only; omega, rfl, rfl, by omega, rfl, rfl, rfl, by omega, rfl⟩)
end Go.Proofs.Ytadkabbeghpgcaa.Pure
