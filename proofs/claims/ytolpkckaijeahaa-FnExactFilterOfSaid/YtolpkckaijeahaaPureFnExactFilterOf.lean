/- The law FnExactFilterOf answers true, for all keys and bits a key. -/
import Derived.Test.YtolpkckaijeahaaPFnExactFilterOfx5
import Derived.Test.YtolpkckaijeahaaPFnExactFilterOfx5
set_option linter.unusedVariables false
set_option linter.unusedSimpArgs false
namespace Go.Proofs.Ytolpkckaijeahaa.Pure
open Go.RowKit Go.Proofs.Ytolpkckaijeahaa.PFnExactFilterOf Go.Proofs.YtolpkckaijeahaaW Go.Proofs.YtolpkckaijeahaaW.PrintWords Go.Proofs.YtolpkckaijeahaaW.PrintLast Go.Proofs.YtolpkckaijeahaaW.PrintMore
/-! ### base: rounds, numbers -/
theorem Ev_succ {α : Type} {g : Nat → Option α} {r : α} (h : Ev (fun k => g (k + 1)) r) : Ev g r := Ev.step (fun _ => rfl) h
theorem Ev_some {α : Type} {o : Option α} {r : α} (h : o = some r) : Ev (fun _ => o) r := ⟨0, fun _ _ => h⟩
theorem Ev_cast {α : Type} {g : Nat → Option α} {r q : α} (h : Ev g r) (e : r = q) : Ev g q := e ▸ h
theorem w64 {n : Int} (h : -9223372036854775808 ≤ n) (h' : n ≤ 9223372036854775807) : wrap64 n = n := by unfold wrap64; omega
theorem wf_i64 {n : Int} (h : (Lit.int .i64 n).wf = true) : -9223372036854775808 ≤ n ∧ n ≤ 9223372036854775807 := by
  simp only [Lit.wf, IntKind.min, IntKind.max, IntKind.signed, IntKind.bits, Bool.and_eq_true, decide_eq_true_eq, if_true] at h
  omega
theorem wf_u64 {n : Int} (h : (Lit.int .u64 n).wf = true) : 0 ≤ n ∧ n ≤ 18446744073709551615 := by
  simp only [Lit.wf, IntKind.min, IntKind.max, IntKind.signed, IntKind.bits, Bool.and_eq_true, decide_eq_true_eq, if_true] at h
  simp at h
  omega
theorem wf_u8 {n : Int} (h : (Lit.int .u8 n).wf = true) : 0 ≤ n ∧ n ≤ 255 := by
  simp only [Lit.wf, IntKind.min, IntKind.max, IntKind.signed, IntKind.bits, Bool.and_eq_true, decide_eq_true_eq, if_true] at h
  simp at h
  omega
theorem wrap_u64 (n : Int) : IntKind.u64.wrap n = n % 18446744073709551616 := by simp [IntKind.wrap, IntKind.bits, IntKind.signed]
theorem wrap_u32 (n : Int) : IntKind.u32.wrap n = n % 4294967296 := by simp [IntKind.wrap, IntKind.bits, IntKind.signed]
/-- A list of bytes. -/
def Bytes (l : List Int) : Prop := ∀ x ∈ l, 0 ≤ x ∧ x ≤ 255
theorem Bytes.wf {l : List Int} (h : ∀ x ∈ l, (Lit.int .u8 x).wf = true) : Bytes l := fun x hx => wf_u8 (h x hx)
theorem Bytes.nil : Bytes [] := fun x hx => by cases hx
theorem Bytes.app {a b : List Int} (h : Bytes a) (k : Bytes b) : Bytes (a ++ b) := fun x hx => by
  rcases List.mem_append.1 hx with h' | h'
  · exact h x h'
  · exact k x h'
theorem Bytes.one {x : Int} (h : 0 ≤ x) (h' : x ≤ 255) : Bytes [x] := fun y hy => (List.mem_singleton.1 hy) ▸ ⟨h, h'⟩
theorem Bytes.sub {a b : List Int} (h : Bytes a) (k : ∀ x ∈ b, x ∈ a) : Bytes b := fun x hx => h x (k x hx)
theorem Bytes.take {a : List Int} (h : Bytes a) (n : Nat) : Bytes (a.take n) := h.sub fun _ hx => List.mem_of_mem_take hx
theorem Bytes.drop {a : List Int} (h : Bytes a) (n : Nat) : Bytes (a.drop n) := h.sub fun _ hx => List.mem_of_mem_drop hx
theorem rd_lt {l : List Int} {i : Nat} (h : i < l.length) : rd l (i : Int) = l[i] := by simp [rd, h]
theorem Bytes.rd {l : List Int} (h : Bytes l) (i : Int) : 0 ≤ rd l i ∧ rd l i ≤ 255 := by
  unfold PrintWords.rd
  by_cases hi : i.toNat < l.length
  · rw [List.getD_eq_getElem?_getD, List.getElem?_eq_getElem hi]; exact h _ (List.getElem_mem hi)
  · rw [List.getD_eq_getElem?_getD, List.getElem?_eq_none (by omega)]; simp
theorem drop_cons {α : Type} {l : List α} {i : Nat} (h : i < l.length) : l.drop i = l[i] :: l.drop (i + 1) := List.drop_eq_getElem_cons h
/-! ### the laws' own words on bytes -/
theorem eqByteS_l0 (a b : List Int) (hl : a.length = b.length) (hb : a.length ≤ 4611686018427387904) :
    ∀ (d i : Nat), a.length - i = d → i ≤ a.length → Ev (fun k => laws_eqByteS.l0 k a b (i : Int)) (decide (a.drop i = b.drop i)) := by
  intro d
  induction d with
  | zero =>
    intro i hd hi
    refine Ev_succ ?_
    simp only [laws_eqByteS.l0]
    simp only [if_neg (show ¬ (i : Int) < (a.length : Int) by omega)]
    exact Ev_cast (Ev.now _) (by rw [List.drop_eq_nil_of_le (by omega), List.drop_eq_nil_of_le (by omega)]; simp)
  | succ d ih =>
    intro i hd hi
    refine Ev_succ ?_
    simp only [laws_eqByteS.l0]
    simp only [if_pos (show (i : Int) < (a.length : Int) by omega), if_pos (show 0 ≤ (i : Int) by omega), if_pos (show (i : Int) < (b.length : Int) by omega)]
    rw [rd_lt (by omega), rd_lt (by omega), w64 (by omega) (by omega), drop_cons (l := a) (by omega), drop_cons (l := b) (i := i) (by omega)]
    by_cases e : a[i]'(by omega) = b[i]'(by omega)
    · simp only [if_pos e]
      exact Ev_cast (ih (i + 1) (by omega) (by omega)) (decide_eq_decide.2 (by rw [List.cons.injEq]; exact ⟨fun h => ⟨e, h⟩, fun h => h.2⟩))
    · simp only [if_neg e]
      exact Ev_cast (Ev.now _) (Eq.symm (decide_eq_false (by rw [List.cons.injEq]; exact fun h => e h.1)))
theorem eqByteS_ev (a b : List Int) (ha : a.length ≤ 4611686018427387904) : Ev (fun k => laws_eqByteS.f k a b) (decide (a = b)) := by
  unfold laws_eqByteS.f
  by_cases h : a.length = b.length
  · simp only [if_pos (show (a.length : Int) = (b.length : Int) by omega)]
    exact eqByteS_l0 a b h ha a.length 0 (by omega) (by omega)
  · simp only [if_neg (show ¬ (a.length : Int) = (b.length : Int) by omega)]
    exact Ev_cast (Ev.now _) (by simp; intro e; exact h (by rw [e]))
theorem eqByteS_same (a b : List Int) (ha : a.length ≤ 4611686018427387904) (e : a = b) : Ev (fun k => laws_eqByteS.f k a b) true := Ev_cast (eqByteS_ev a b ha) (by simp [e])
/-- What a list reads once it was marked from m on. -/
def markedFrom (m : Int) : Nat → List Int
  | 0 => []
  | n + 1 => (m % 256) :: markedFrom (m + 1) n
theorem markedFrom_length (n : Nat) : ∀ m, (markedFrom m n).length = n := by
  induction n with
  | zero => intro m; rfl
  | succ n ih => intro m; simp [markedFrom, ih]
theorem markByteS_l0 (m : Int) : ∀ (d i : Nat) (l : List Int), l.length - i = d → i ≤ l.length → l.length ≤ 1152921504606846976 → 0 ≤ m → m ≤ 1152921504606846976 + i →
    Ev (fun k => laws_markByteS.l0 k l m (i : Int)) (m + d, l.take i ++ markedFrom m d) := by
  intro d
  induction d generalizing m with
  | zero =>
    intro i l hd hi hl h0 hm
    refine Ev_succ ?_
    simp only [laws_markByteS.l0]
    simp only [if_neg (show ¬ (i : Int) < (l.length : Int) by omega)]
    exact Ev_cast (Ev.now _) (by rw [List.take_of_length_le (by omega)]; simp [markedFrom])
  | succ d ih =>
    intro i l hd hi hl h0 hm
    refine Ev_succ ?_
    simp only [laws_markByteS.l0]
    simp only [if_pos (show (i : Int) < (l.length : Int) by omega), if_pos (show 0 ≤ (i : Int) by omega)]
    rw [w64 (n := m + 1) (by omega) (by omega), w64 (by omega) (by omega)]
    refine Ev_cast (ih (m + 1) (i + 1) (l.set i (m % 256)) (by simp; omega) (by simp; omega) (by simpa using hl) (by omega) (by omega)) ?_
    refine Prod.ext (by simp; omega) ?_
    show (l.set i (m % 256)).take (i + 1) ++ markedFrom (m + 1) d = l.take i ++ markedFrom m (d + 1)
    have : (l.set i (m % 256)).take (i + 1) = l.take i ++ [m % 256] := by
      apply List.ext_getElem?
      intro j
      rw [List.getElem?_take, List.getElem?_append, List.getElem?_set]
      have : (l.take i).length = i := by simp; omega
      rw [this]
      by_cases h1 : j < i
      · rw [if_pos (by omega), if_neg (by omega), if_pos h1, List.getElem?_take, if_pos h1]
      · by_cases h2 : j = i
        · subst h2; simp; omega
        · rw [if_neg (by omega), if_neg h1]; simp; omega
    rw [this]; simp [markedFrom]
theorem markByteS_ev (l : List Int) (m : Int) (hl : l.length ≤ 1152921504606846976) (h0 : 0 ≤ m) (hm : m ≤ 1152921504606846976) : Ev (fun k => laws_markByteS.f k l m) (m + l.length, markedFrom m l.length) := by
  unfold laws_markByteS.f
  exact Ev_cast (markByteS_l0 m l.length 0 l (by omega) (by omega) hl h0 (by omega)) (by simp)
theorem heldByteS_l0 : ∀ (n : Nat) (m : Int) (i : Nat) (p : List Int), p.length = i → i + n ≤ 1152921504606846976 → 0 ≤ m → m ≤ 1152921504606846976 + i →
    Ev (fun k => laws_heldByteS.l0 k (p ++ markedFrom m n) m (i : Int)) (m + n) := by
  intro n
  induction n with
  | zero =>
    intro m i p hp hl h0 hm
    refine Ev_succ ?_
    simp only [laws_heldByteS.l0]
    simp only [markedFrom, List.append_nil, if_neg (show ¬ (i : Int) < (p.length : Int) by omega)]
    exact Ev_cast (Ev.now _) (by simp)
  | succ n ih =>
    intro m i p hp hl h0 hm
    refine Ev_succ ?_
    simp only [laws_heldByteS.l0]
    have hlen : (p ++ markedFrom m (n + 1)).length = i + n + 1 := by rw [List.length_append, markedFrom_length]; omega
    have hr : rd (p ++ markedFrom m (n + 1)) (i : Int) = m % 256 := by
      rw [rd_lt (by omega)]; simp [markedFrom, hp]
    simp only [if_pos (show (i : Int) < ((p ++ markedFrom m (n + 1)).length : Int) by omega), if_pos (show 0 ≤ (i : Int) by omega), hr, if_true]
    rw [w64 (n := m + 1) (by omega) (by omega), w64 (by omega) (by omega)]
    have e : p ++ markedFrom m (n + 1) = (p ++ [m % 256]) ++ markedFrom (m + 1) n := by simp [markedFrom]
    rw [e]
    exact Ev_cast (ih (m + 1) (i + 1) (p ++ [m % 256]) (by simp [hp]) (by omega) (by omega) (by omega)) (by omega)
theorem heldByteS_ev (m : Int) (n : Nat) (hl : n ≤ 1152921504606846976) (h0 : 0 ≤ m) (hm : m ≤ 1152921504606846976) : Ev (fun k => laws_heldByteS.f k (markedFrom m n) m) (m + n) := by
  unfold laws_heldByteS.f
  exact heldByteS_l0 n m 0 [] rfl (by omega) h0 (by omega)
theorem within_eq (a b c : Int) : impl_within.f a b c = some (decide (b ≤ a ∧ a ≤ c)) := by
  unfold impl_within.f
  by_cases h : a ≥ b
  · rw [if_pos h]; simp; intro; omega
  · rw [if_neg h]; simp; intro; omega
theorem l1In_eq (a b c : Int) : spec_l1In.f a b c = some (decide (b ≤ a ∧ a ≤ c)) := by
  unfold spec_l1In.f
  by_cases h : a ≥ b
  · rw [if_pos h]; simp; intro; omega
  · rw [if_neg h]; simp; intro; omega
/-! ### the laws' own words on texts -/
theorem rdOf_lt {α : Type} {d : α} {l : List α} {i : Nat} (h : i < l.length) : rdOf d l (i : Int) = l[i] := by simp [rdOf, h]
theorem szStringS_ev (l : List ByteArray) (hl : l.length ≤ 9223372036854775807) (hs : ∀ s ∈ l, s.size ≤ 9223372036854775807) : ∃ z, Ev (fun k => laws_szStringS.f k l 1048576) z ∧ (z < 0 ∨ (l.length ≤ 1048576 ∧ ∀ s ∈ l, s.size ≤ 1048576)) := by
  have loop : ∀ (d i : Nat) (a : Int), l.length - i = d → i ≤ l.length → l.length ≤ 1048576 → 0 ≤ a → a ≤ 1048576 → ∃ z, Ev (fun k => laws_szStringS.l0 k l a (i : Int)) z ∧ (z < 0 ∨ ∀ s ∈ l.drop i, s.size ≤ 1048576) := by
    intro d
    induction d with
    | zero =>
      intro i a hd hi hl2 h0 h1
      refine ⟨a, Ev_succ ?_, .inr (by rw [List.drop_eq_nil_of_le (by omega)]; intro s hs; cases hs)⟩
      simp only [laws_szStringS.l0]
      simp only [if_neg (show ¬ (i : Int) < (l.length : Int) by omega)]
      exact Ev.now _
    | succ d ih =>
      intro i a hd hi hl2 h0 h1
      have hx := hs (l[i]'(by omega)) (List.getElem_mem _)
      by_cases hn : a - ((l[i]'(by omega)).size : Int) < 0
      · refine ⟨-1, Ev_succ ?_, .inl (by omega)⟩
        simp only [laws_szStringS.l0]
        simp only [if_pos (show (i : Int) < (l.length : Int) by omega), if_pos (show 0 ≤ (i : Int) by omega)]
        rw [rdOf_lt (by omega), w64 (n := a - _) (by omega) (by omega)]
        simp only [if_pos hn]
        exact Ev.now _
      · obtain ⟨z, hz, hz2⟩ := ih (i + 1) (a - ((l[i]'(by omega)).size : Int)) (by omega) (by omega) hl2 (by omega) (by omega)
        refine ⟨z, Ev_succ ?_, ?_⟩
        · simp only [laws_szStringS.l0]
          simp only [if_pos (show (i : Int) < (l.length : Int) by omega), if_pos (show 0 ≤ (i : Int) by omega)]
          rw [rdOf_lt (by omega), w64 (n := a - _) (by omega) (by omega), w64 (n := (i : Int) + 1) (by omega) (by omega)]
          simp only [if_neg hn]
          exact hz
        · rcases hz2 with hz2 | hz2
          · exact .inl hz2
          · refine .inr ?_
            rw [drop_cons (l := l) (i := i) (by omega)]
            intro s hs'
            rcases List.mem_cons.1 hs' with rfl | hs'
            · omega
            · exact hz2 s hs'
  unfold laws_szStringS.f
  rw [w64 (by omega) (by omega)]
  by_cases h : (1048576 : Int) - (l.length : Int) < 0
  · simp only [if_pos h]
    exact ⟨-1, Ev.now _, .inl (by omega)⟩
  · simp only [if_neg h]
    obtain ⟨z, hz, hz2⟩ := loop l.length 0 (1048576 - (l.length : Int)) (by omega) (by omega) (by omega) (by omega) (by omega)
    refine ⟨z, hz, ?_⟩
    rcases hz2 with hz2 | hz2
    · exact .inl hz2
    · exact .inr ⟨by omega, by simpa using hz2⟩
theorem toStringS_l0 (l : List ByteArray) : ∀ (d i : Nat) (o : List ByteArray), l.length - i = d → i ≤ l.length → l.length ≤ 1152921504606846976 → o.length = l.length → o.take i = l.take i →
    Ev (fun k => laws_toStringS.l0 k l o (i : Int)) l := by
  intro d
  induction d with
  | zero =>
    intro i o hd hi hl ho ht
    refine Ev_succ ?_
    simp only [laws_toStringS.l0]
    simp only [if_neg (show ¬ (i : Int) < (l.length : Int) by omega)]
    exact Ev_cast (Ev.now _) (by rw [List.take_of_length_le (by omega), List.take_of_length_le (by omega)] at ht; exact ht)
  | succ d ih =>
    intro i o hd hi hl ho ht
    refine Ev_succ ?_
    simp only [laws_toStringS.l0]
    simp only [if_pos (show (i : Int) < (l.length : Int) by omega), if_pos (show 0 ≤ (i : Int) by omega), if_pos (show (i : Int) < (o.length : Int) by omega)]
    rw [rdOf_lt (by omega), w64 (by omega) (by omega)]
    refine ih (i + 1) _ (by omega) (by omega) hl (by simpa using ho) ?_
    apply List.ext_getElem?
    intro j
    rw [List.getElem?_take, List.getElem?_take]
    by_cases h1 : j < i
    · have := congrArg (fun x => x[j]?) ht
      simp only [List.getElem?_take, if_pos h1] at this
      rw [if_pos (by omega), if_pos (by omega), List.getElem?_set]
      simp only [Int.toNat_natCast]
      rw [if_neg (by omega), this]
    · by_cases h2 : j = i
      · subst h2
        rw [if_pos (by omega), if_pos (by omega)]
        simp [show j < l.length by omega, show j < o.length by omega]
      · rw [if_neg (by omega), if_neg (by omega)]
theorem toStringS_ev (l : List ByteArray) (hl : l.length ≤ 17592186044416) : Ev (fun k => laws_toStringS.f k l) l := by
  unfold laws_toStringS.f
  simp only [if_pos (show 0 ≤ (l.length : Int) by omega), Int.toNat_natCast, if_pos hl]
  exact toStringS_l0 l l.length 0 _ (by omega) (by omega) (by omega) (by simp) (by simp)
theorem eqStringS_same (l : List ByteArray) (hl : l.length ≤ 4611686018427387904) : Ev (fun k => laws_eqStringS.f k l l) true := by
  have loop : ∀ (d i : Nat), l.length - i = d → i ≤ l.length → Ev (fun k => laws_eqStringS.l0 k l l (i : Int)) true := by
    intro d
    induction d with
    | zero =>
      intro i hd hi
      refine Ev_succ ?_
      simp only [laws_eqStringS.l0]
      simp only [if_neg (show ¬ (i : Int) < (l.length : Int) by omega)]
      exact Ev.now _
    | succ d ih =>
      intro i hd hi
      refine Ev_succ ?_
      simp only [laws_eqStringS.l0]
      simp only [if_pos (show (i : Int) < (l.length : Int) by omega), if_pos (show 0 ≤ (i : Int) by omega), if_true]
      rw [w64 (by omega) (by omega)]
      exact ih (i + 1) (by omega) (by omega)
  unfold laws_eqStringS.f
  simp only [if_true]
  exact loop l.length 0 (by omega) (by omega)
theorem markText_l0 : ∀ (n : Nat) (s : ByteArray), s.size + n ≤ 4611686018427387904 → ∃ r, Ev (fun k => laws_markText.l0 k (n : Int) s) r := by
  intro n
  induction n using Nat.strongRecOn with
  | ind n ih =>
    intro s h
    by_cases h0 : 0 < n
    · have hsz : ∀ x : Int, (strOfNums [x]).size = 1 := fun x => by simp [strOfNums]; rfl
      obtain ⟨r, hr⟩ := ih (n / 10) (by omega) (strOfNums [(wrap64 (48 + Int.tmod (n : Int) 10)) % 256] ++ s) (by rw [ByteArray.size_append, hsz]; omega)
      refine ⟨r, Ev_succ ?_⟩
      simp only [laws_markText.l0]
      simp only [if_pos (show (n : Int) > 0 by omega), Option.bind_some]
      simp only [hsz, if_pos (show 1 + s.size ≤ 9223372036854775807 by omega)]
      rw [show wrap64 (Int.tdiv (n : Int) 10) = ((n / 10 : Nat) : Int) by rw [Int.tdiv_eq_ediv_of_nonneg (by omega), w64 (by omega) (by omega)]; omega]
      exact hr
    · refine ⟨(⟨#[109]⟩ : ByteArray) ++ s, Ev_succ ?_⟩
      simp only [laws_markText.l0]
      simp only [if_neg (show ¬ (n : Int) > 0 by omega), if_pos (show 1 + s.size ≤ 9223372036854775807 by omega)]
      exact Ev.now _
theorem markText_ev (n : Nat) (h : n ≤ 1152921504606846976) : ∃ r, Ev (fun k => laws_markText.f k (n : Int)) r := by
  unfold laws_markText.f
  by_cases h0 : (n : Int) ≤ 0
  · simp only [if_pos h0]
    exact ⟨_, Ev.now _⟩
  · simp only [if_neg h0]
    exact markText_l0 n _ (by show 0 + n ≤ _; omega)
theorem markStringS_ev (l : List ByteArray) (hl : l.length ≤ 1048576) : ∃ r, Ev (fun k => laws_markStringS.f k l 1) r ∧ 0 ≤ r.1 := by
  have loop : ∀ (d i : Nat) (o : List ByteArray) (m : Nat), o.length - i = d → i ≤ o.length → o.length ≤ 1048576 → m ≤ 1048576 + i → ∃ r, Ev (fun k => laws_markStringS.l0 k o (m : Int) (i : Int)) r ∧ 0 ≤ r.1 := by
    intro d
    induction d with
    | zero =>
      intro i o m hd hi ho hm
      refine ⟨((m : Int), o), Ev_succ ?_, by show 0 ≤ (m : Int); omega⟩
      simp only [laws_markStringS.l0]
      simp only [if_neg (show ¬ (i : Int) < (o.length : Int) by omega)]
      exact Ev.now _
    | succ d ih =>
      intro i o m hd hi ho hm
      obtain ⟨t, ht⟩ := markText_ev m (by omega)
      obtain ⟨r, hr, h0⟩ := ih (i + 1) (o.set i t) (m + 1) (by simp; omega) (by simp; omega) (by simpa using ho) (by omega)
      refine ⟨r, Ev_succ ?_, h0⟩
      simp only [laws_markStringS.l0]
      simp only [if_pos (show (i : Int) < (o.length : Int) by omega)]
      refine Ev.bind ht ?_
      simp only [if_pos (show 0 ≤ (i : Int) by omega), Int.toNat_natCast]
      rw [w64 (n := (m : Int) + 1) (by omega) (by omega), w64 (by omega) (by omega)]
      exact hr
  unfold laws_markStringS.f
  obtain ⟨r, hr, h0⟩ := loop l.length 0 l 1 (by omega) (by omega) hl (by omega)
  exact ⟨r, hr, h0⟩
/-! ### the hash -/
def hashFrom (h : Int) : List Int → Int
  | [] => Go.bits .xor .u32 h (h / 32768)
  | b :: t => hashFrom (((Go.bits .xor .u32 h (b % 4294967296)) * 16777619) % 4294967296) t
def hashOf (s : ByteArray) (seed : Int) : Int := hashFrom ((2166136261 + ((seed % 4294967296) * 40503)) % 4294967296) (bytesOf s)
theorem spec_l6Hash_l0 (s : ByteArray) (hs : s.size ≤ 4611686018427387904) : ∀ (d i : Nat) (h : Int), s.size - i = d → i ≤ s.size → Ev (fun k => spec_l6Hash.l0 k s h (i : Int)) (hashFrom h ((bytesOf s).drop i)) := by
  intro d
  have hl := bytesOf_length s
  induction d with
  | zero =>
    intro i h hd hi
    refine Ev_succ ?_
    simp only [spec_l6Hash.l0]
    simp only [if_neg (show ¬ (i : Int) < (s.size : Int) by omega)]
    rw [List.drop_eq_nil_of_le (by omega)]
    exact Ev.now _
  | succ d ih =>
    intro i h hd hi
    refine Ev_succ ?_
    simp only [spec_l6Hash.l0]
    simp only [if_pos (show (i : Int) < (s.size : Int) by omega), if_pos (show 0 ≤ (i : Int) by omega)]
    rw [← rd_bytesOf, rd_lt (by omega), w64 (by omega) (by omega), drop_cons (l := bytesOf s) (i := i) (by omega)]
    exact ih (i + 1) _ (by omega) (by omega)
theorem spec_l6Hash_ev (s : ByteArray) (hs : s.size ≤ 4611686018427387904) (seed : Int) : Ev (fun k => spec_l6Hash.f k s seed) (hashOf s seed) := by
  unfold spec_l6Hash.f hashOf
  (try rw [show (2166136261 + seed % 4294967296 * 40503 % 4294967296) % 4294967296 = (2166136261 + seed % 4294967296 * 40503) % 4294967296 by omega])
  have := spec_l6Hash_l0 s hs s.size 0 ((2166136261 + seed % 4294967296 * 40503) % 4294967296) (by omega) (by omega)
  simpa using this
theorem impl_hash_l0 (s : ByteArray) (hs : s.size ≤ 4611686018427387904) : ∀ (d i : Nat) (h : Int), s.size - i = d → i ≤ s.size → Ev (fun k => impl_hash.l0 k s h (i : Int)) (hashFrom h ((bytesOf s).drop i)) := by
  intro d
  have hl := bytesOf_length s
  induction d with
  | zero =>
    intro i h hd hi
    refine Ev_succ ?_
    simp only [impl_hash.l0]
    simp only [if_neg (show ¬ (i : Int) < (s.size : Int) by omega)]
    rw [List.drop_eq_nil_of_le (by omega)]
    exact Ev.now _
  | succ d ih =>
    intro i h hd hi
    refine Ev_succ ?_
    simp only [impl_hash.l0]
    simp only [if_pos (show (i : Int) < (s.size : Int) by omega), if_pos (show 0 ≤ (i : Int) by omega)]
    rw [rd_lt (by omega), w64 (by omega) (by omega), drop_cons (l := bytesOf s) (i := i) (by omega)]
    exact ih (i + 1) _ (by omega) (by omega)
theorem impl_hash_ev (s : ByteArray) (hs : s.size ≤ 4611686018427387904) (seed : Int) : Ev (fun k => impl_hash.f k s seed) (hashOf s seed) := by
  unfold impl_hash.f hashOf
  simp only [if_pos (show s.size ≤ 9223372036854775807 by omega)]
  have := impl_hash_l0 s hs s.size 0 ((2166136261 + seed % 4294967296 * 40503) % 4294967296) (by omega) (by omega)
  simpa using this
/-! ### the places of a key -/
theorem bits_range32 (op : BinOp) (a b : Int) : 0 ≤ Go.bits op .u32 a b ∧ Go.bits op .u32 a b < 4294967296 := by
  unfold Go.bits
  simp only [wrap_u32]
  omega
theorem hashFrom_range : ∀ (l : List Int) (h : Int), 0 ≤ hashFrom h l ∧ hashFrom h l < 4294967296 := by
  intro l
  induction l with
  | nil => intro h; exact bits_range32 _ _ _
  | cons b t ih => intro h; exact ih _
theorem hashOf_range (s : ByteArray) (seed : Int) : 0 ≤ hashOf s seed ∧ hashOf s seed < 4294967296 := hashFrom_range _ _
def placeAt (h d m : Int) (k : Nat) : Int := ((h + k * d) % 4294967296) % m
def placesFrom (h d m : Int) : Nat → Nat → List Int
  | _, 0 => []
  | k, n + 1 => placeAt h d m k :: placesFrom h d m (k + 1) n
def placesOf (s : ByteArray) (ways : Nat) (bytes : Nat) : List Int := placesFrom (hashOf s 0) (hashOf s 1) (8 * bytes) 0 ways
theorem placesFrom_range (h d m : Int) (hm : 0 < m) : ∀ (n k : Nat), ∀ p ∈ placesFrom h d m k n, 0 ≤ p ∧ p < m := by
  intro n
  induction n with
  | zero => intro k p hp; cases hp
  | succ n ih =>
    intro k p hp
    rcases List.mem_cons.1 hp with rfl | hp
    · unfold placeAt
      exact ⟨Int.emod_nonneg _ (by omega), Int.emod_lt_of_pos _ hm⟩
    · exact ih (k + 1) p hp
theorem placesFrom_length (h d m : Int) : ∀ (n k : Nat), (placesFrom h d m k n).length = n := by
  intro n
  induction n with
  | zero => intro k; rfl
  | succ n ih => intro k; simp [placesFrom, ih]
theorem place_wrap (x m : Int) (hm : 0 < m) (hm2 : m ≤ 1600) : wrap64 ((x % 4294967296) % m) = (x % 4294967296) % m := by
  have h1 := Int.emod_nonneg (x % 4294967296) (show m ≠ 0 by omega)
  have h2 := Int.emod_lt_of_pos (x % 4294967296) hm
  exact w64 (by omega) (by omega)
theorem spec_l6Places_l0 (h d : Int) (hh : 0 ≤ h) (ways bytes : Nat) (hw : ways ≤ 8) (hb : 1 ≤ bytes ∧ bytes ≤ 200) : ∀ (n k : Nat) (acc : List Int), k + n = ways → acc.length ≤ 100 + k → Ev (fun f => spec_l6Places.l0 f (ways : Int) (bytes : Int) ((h + k * d) % 4294967296) d acc (k : Int)) (acc ++ placesFrom h d (8 * bytes) k n) := by
  intro n
  induction n with
  | zero =>
    intro k acc hk ha
    refine Ev_succ ?_
    simp only [spec_l6Places.l0]
    simp only [if_neg (show ¬ (k : Int) < (ways : Int) by omega)]
    exact Ev_cast (Ev.now _) (by simp [placesFrom])
  | succ n ih =>
    intro k acc hk ha
    refine Ev_succ ?_
    simp only [spec_l6Places.l0]
    rw [w64 (n := 8 * (bytes : Int)) (by omega) (by omega), show 8 * (bytes : Int) % 4294967296 = 8 * (bytes : Int) by omega]
    simp only [if_pos (show (k : Int) < (ways : Int) by omega), if_neg (show ¬ 8 * (bytes : Int) = 0 by omega), if_pos (show acc.length < 17592186044416 by omega)]
    rw [Int.tmod_eq_emod_of_nonneg (by omega), place_wrap _ _ (by omega) (by omega), w64 (by omega) (by omega)]
    have e : ((h + k * d) % 4294967296 + d) % 4294967296 = (h + ((k + 1 : Nat) : Int) * d) % 4294967296 := by
      rw [Int.emod_add_emod]
      congr 1
      push_cast
      rw [Int.add_mul]; omega
    rw [e]
    exact Ev_cast (ih (k + 1) _ (by omega) (by simp; omega)) (by simp [placesFrom, placeAt])
theorem spec_l6Places_ev (s : ByteArray) (hs : s.size ≤ 4611686018427387904) (ways bytes : Nat) (hw : ways ≤ 8) (hb : 1 ≤ bytes ∧ bytes ≤ 200) : Ev (fun f => spec_l6Places.f f s (ways : Int) (bytes : Int)) (placesOf s ways bytes) := by
  unfold spec_l6Places.f
  refine Ev.bind (spec_l6Hash_ev s hs 0) ?_
  refine Ev.bind (spec_l6Hash_ev s hs 1) ?_
  have hr := hashOf_range s 0
  have := spec_l6Places_l0 (hashOf s 0) (hashOf s 1) (by omega) ways bytes hw hb ways 0 [] (by omega) (by simp)
  rw [show (hashOf s 0 + ((0 : Nat) : Int) * hashOf s 1) % 4294967296 = hashOf s 0 by simp; omega] at this
  exact this
theorem impl_places_l0 (h d : Int) (w : Int) (bits : List Int) (ways : Nat) (hw : ways ≤ 8) (hb : 1 ≤ bits.length ∧ bits.length ≤ 200) : ∀ (n k : Nat) (acc : List Int), k + n = ways → acc.length ≤ 100 + k → Ev (fun f => impl_Filter_places.l0 f h d acc (ways : Int) (k : Int) w bits) (acc ++ placesFrom h d (8 * (bits.length : Int)) k n) := by
  intro n
  induction n with
  | zero =>
    intro k acc hk ha
    refine Ev_succ ?_
    simp only [impl_Filter_places.l0]
    simp only [if_neg (show ¬ (k : Int) < (ways : Int) by omega)]
    exact Ev_cast (Ev.now _) (by simp [placesFrom])
  | succ n ih =>
    intro k acc hk ha
    refine Ev_succ ?_
    simp only [impl_Filter_places.l0]
    rw [w64 (n := 8 * (bits.length : Int)) (by omega) (by omega), show 8 * (bits.length : Int) % 4294967296 = 8 * (bits.length : Int) by omega, show (k : Int) % 4294967296 = (k : Int) by omega]
    simp only [if_pos (show (k : Int) < (ways : Int) by omega), if_neg (show ¬ 8 * (bits.length : Int) = 0 by omega), if_pos (show acc.length < 17592186044416 by omega)]
    rw [place_wrap _ _ (by omega) (by omega), w64 (by omega) (by omega)]
    exact Ev_cast (ih (k + 1) _ (by omega) (by simp; omega)) (by simp [placesFrom, placeAt])
theorem impl_places_ev (s : ByteArray) (hs : s.size ≤ 4611686018427387904) (ways : Nat) (bits : List Int) (hw : ways ≤ 8) (hb : 1 ≤ bits.length ∧ bits.length ≤ 200) : Ev (fun f => impl_Filter_places.f f (ways : Int) bits s) (placesOf s ways bits.length) := by
  unfold impl_Filter_places.f
  refine Ev.bind (impl_hash_ev s hs 0) ?_
  refine Ev.bind (impl_hash_ev s hs 1) ?_
  exact impl_places_l0 (hashOf s 0) (hashOf s 1) _ bits ways hw hb ways 0 [] (by omega) (by simp)
def setBit (l : List Int) (p : Int) : List Int := l.set (wrap64 (Int.tdiv p 8)).toNat (Go.bits .or .u8 (rd l (wrap64 (Int.tdiv p 8))) (shl .u8 1 (Int.tmod p 8)))
theorem setBit_length (l : List Int) (p : Int) : (setBit l p).length = l.length := by unfold setBit; simp
theorem foldBits_length (ps : List Int) : ∀ l : List Int, (ps.foldl setBit l).length = l.length := by
  induction ps with
  | nil => intro l; rfl
  | cons p ps ih => intro l; rw [List.foldl_cons, ih, setBit_length]
def setKeys (ways : Nat) (l : List Int) (keys : List ByteArray) : List Int := keys.foldl (fun l s => (placesOf s ways l.length).foldl setBit l) l
theorem setKeys_length (ways : Nat) (keys : List ByteArray) : ∀ l : List Int, (setKeys ways l keys).length = l.length := by
  unfold setKeys
  induction keys with
  | nil => intro l; rfl
  | cons p ps ih => intro l; rw [List.foldl_cons, ih, foldBits_length]
def waysOf (perKey : Int) : Nat := if perKey * 69 / 100 < 1 then 1 else if perKey * 69 / 100 > 8 then 8 else (perKey * 69 / 100).toNat
def bytesFor (n : Nat) (perKey : Int) : Nat := if (n : Int) * perKey < 64 then 8 else if ((n : Int) * perKey + 7) / 8 > 200 then 200 else (((n : Int) * perKey + 7) / 8).toNat
def filterOf (keys : List ByteArray) (perKey : Int) : Int × List Int × Bool := if keys.length ≤ 100 ∧ 1 ≤ perKey ∧ perKey ≤ 20 then ((waysOf perKey : Int), setKeys (waysOf perKey) (List.replicate (bytesFor keys.length perKey) 0) keys, true) else (0, [], false)
theorem waysOf_range (perKey : Int) : 1 ≤ waysOf perKey ∧ waysOf perKey ≤ 8 := by
  unfold waysOf
  split
  · omega
  · split <;> omega
theorem bytesFor_range (n : Nat) (perKey : Int) : 1 ≤ bytesFor n perKey ∧ bytesFor n perKey ≤ 200 := by
  unfold bytesFor
  split
  · omega
  · split <;> omega
theorem keys_bound (n : Nat) (perKey : Int) (hn : n ≤ 100) (hp : 1 ≤ perKey ∧ perKey ≤ 20) : 0 ≤ (n : Int) * perKey ∧ (n : Int) * perKey ≤ 2000 := by
  constructor
  · exact Int.mul_nonneg (by omega) (by omega)
  · have := Int.mul_le_mul (show (n : Int) ≤ 100 by omega) hp.2 (by omega) (by omega)
    omega
theorem filterOf_length (keys : List ByteArray) (perKey : Int) : (filterOf keys perKey).2.1.length ≤ 200 := by
  unfold filterOf
  split
  · rw [setKeys_length, List.length_replicate]; exact (bytesFor_range _ _).2
  · simp
theorem shr_idx (p : Int) (m : Nat) (h0 : 0 ≤ p) (h1 : p < 8 * (m : Int)) (hm : m ≤ 200) : 0 ≤ wrap64 (Int.tdiv p 8) ∧ wrap64 (Int.tdiv p 8) < (m : Int) ∧ 0 ≤ Int.tmod p 8 ∧ IntKind.u64.wrap (Int.tmod p 8) = Int.tmod p 8 := by
  rw [Int.tdiv_eq_ediv_of_nonneg h0, Int.tmod_eq_emod_of_nonneg h0, w64 (by omega) (by omega), wrap_u64]
  omega
theorem spec_l6Filter_l1 (W M : Int) (keys : List ByteArray) (K I w : Int) (r : Int × List Int) : ∀ (ps pre bits : List Int), (pre ++ ps).length ≤ 1000 → bits.length ≤ 200 → (∀ p ∈ ps, 0 ≤ p ∧ p < 8 * (bits.length : Int)) → Ev (fun k => spec_l6Filter.l0 k W M keys K (wrap64 (I + 1)) w (ps.foldl setBit bits)) r →
    Ev (fun k => spec_l6Filter.l1 k W M keys K I (pre ++ ps) ((pre ++ ps).length : Int) (pre.length : Int) w bits) r := by
  intro ps
  induction ps with
  | nil =>
    intro pre bits hl hb hp hr
    refine Ev_succ ?_
    simp only [spec_l6Filter.l1]
    simp only [if_neg (show ¬ (pre.length : Int) < ((pre ++ []).length : Int) by simp)]
    exact hr
  | cons p ps ih =>
    intro pre bits hl hb hp hr
    refine Ev_succ ?_
    have hll : (pre ++ p :: ps).length = pre.length + ps.length + 1 := by simp; omega
    have hrd : rd (pre ++ p :: ps) (pre.length : Int) = p := by rw [rd_lt (by omega)]; simp
    obtain ⟨p0, p1⟩ := hp p (List.mem_cons_self ..)
    obtain ⟨i0, i1, i2, i3⟩ := shr_idx p bits.length p0 p1 hb
    simp only [spec_l6Filter.l1, hrd, i3]
    simp only [if_pos (show (pre.length : Int) < ((pre ++ p :: ps).length : Int) by omega), if_pos (show 0 ≤ (pre.length : Int) by omega), if_pos i0, if_pos i1, if_pos i2]
    rw [w64 (n := (pre.length : Int) + 1) (by omega) (by omega)]
    have e : pre ++ p :: ps = (pre ++ [p]) ++ ps := by simp
    rw [e, show (pre.length : Int) + 1 = ((pre ++ [p]).length : Int) by simp]
    refine ih (pre ++ [p]) (setBit bits p) (by rw [← e]; exact hl) (by rw [setBit_length]; exact hb) (fun q hq => by rw [setBit_length]; exact hp q (List.mem_cons_of_mem _ hq)) hr
theorem spec_l6Filter_l0 (ways : Nat) (m : Nat) (w : Int) (hw : ways ≤ 8) (hm : 1 ≤ m ∧ m ≤ 200) (keys : List ByteArray) (hk : keys.length ≤ 100) (hs : ∀ s ∈ keys, s.size ≤ 1048576) : ∀ (d i : Nat) (bits : List Int), keys.length - i = d → i ≤ keys.length → bits.length = m →
    Ev (fun k => spec_l6Filter.l0 k (ways : Int) (m : Int) keys (keys.length : Int) (i : Int) w bits) (w, setKeys ways bits (keys.drop i)) := by
  intro d
  induction d with
  | zero =>
    intro i bits hd hi hb
    refine Ev_succ ?_
    simp only [spec_l6Filter.l0]
    simp only [if_neg (show ¬ (i : Int) < (keys.length : Int) by omega)]
    rw [List.drop_eq_nil_of_le (by omega)]
    exact Ev.now _
  | succ d ih =>
    intro i bits hd hi hb
    refine Ev_succ ?_
    simp only [spec_l6Filter.l0]
    simp only [if_pos (show (i : Int) < (keys.length : Int) by omega), if_pos (show 0 ≤ (i : Int) by omega)]
    rw [rdOf_lt (by omega), drop_cons (l := keys) (i := i) (by omega)]
    have hsz := hs (keys[i]'(by omega)) (List.getElem_mem _)
    generalize keys[i]'(by omega) = s at hsz ⊢
    refine Ev.bind (spec_l6Places_ev s (by omega) ways m hw hm) ?_
    have hp := placesFrom_range (hashOf s 0) (hashOf s 1) (8 * (m : Int)) (by omega) ways 0
    have hpl : (placesOf s ways m).length = ways := placesFrom_length _ _ _ _ _
    have := spec_l6Filter_l1 (ways : Int) (m : Int) keys (keys.length : Int) (i : Int) w (w, setKeys ways bits (s :: keys.drop (i + 1))) (placesOf s ways m) [] bits (by rw [List.nil_append]; omega) (by omega) (by rw [hb]; exact hp) (by
      rw [w64 (by omega) (by omega)]
      have := ih (i + 1) ((placesOf s ways m).foldl setBit bits) (by omega) (by omega) (by rw [foldBits_length]; exact hb)
      have e : setKeys ways bits (s :: keys.drop (i + 1)) = setKeys ways ((placesOf s ways m).foldl setBit bits) (keys.drop (i + 1)) := by
        unfold setKeys
        rw [List.foldl_cons, hb]
      rw [e]
      exact this)
    exact this
theorem spec_FilterOf_ev (keys : List ByteArray) (hs : ∀ s ∈ keys, s.size ≤ 1048576) (hkl : keys.length ≤ 1048576) (perKey : Int) : Ev (fun k => spec_FilterOf.f k keys perKey) (filterOf keys perKey) := by
  unfold spec_FilterOf.f filterOf
  by_cases hk : (keys.length : Int) > 100
  · simp only [if_pos hk]; rw [if_neg (by omega)]; exact Ev.now _
  simp only [if_neg hk]
  refine Ev.bind (Ev_some (l1In_eq _ _ _)) ?_
  by_cases hp : 1 ≤ perKey ∧ perKey ≤ 20
  · rw [decide_eq_true hp, if_pos ⟨by omega, hp.1, hp.2⟩]
    simp only [if_true]
    refine Ev.bind (a := ((waysOf perKey : Int), setKeys (waysOf perKey) (List.replicate (bytesFor keys.length perKey) 0) keys)) ?_ (Ev.now _)
    have hw := waysOf_range perKey
    have hm := bytesFor_range keys.length perKey
    have hkb := keys_bound keys.length perKey (by omega) hp
    -- the number of bytes
    have j3 : Ev (fun k => spec_l6Filter.j3 k keys (waysOf perKey : Int) (bytesFor keys.length perKey : Int)) ((waysOf perKey : Int), setKeys (waysOf perKey) (List.replicate (bytesFor keys.length perKey) 0) keys) := by
      refine Ev_succ ?_
      simp only [spec_l6Filter.j3, Int.toNat_natCast]
      simp only [if_pos (show 0 ≤ (bytesFor keys.length perKey : Int) by omega), if_pos (show bytesFor keys.length perKey ≤ 281474976710656 by omega)]
      exact spec_l6Filter_l0 (waysOf perKey) (bytesFor keys.length perKey) _ hw.2 hm keys (by omega) hs keys.length 0 _ (by omega) (by omega) (by simp)
    have j1 : Ev (fun k => spec_l6Filter.j1 k keys perKey (waysOf perKey : Int)) ((waysOf perKey : Int), setKeys (waysOf perKey) (List.replicate (bytesFor keys.length perKey) 0) keys) := by
      refine Ev_succ ?_
      simp only [spec_l6Filter.j1]
      rw [w64 (n := (keys.length : Int) * perKey) (by omega) (by omega)]
      generalize hB : bytesFor keys.length perKey = B at j3
      unfold bytesFor at hB
      generalize (keys.length : Int) * perKey = q at hkb hB ⊢
      by_cases h64 : q < 64
      · simp only [if_pos h64]
        rw [if_pos h64] at hB
        subst hB
        refine Ev_succ ?_
        simp only [spec_l6Filter.j2]
        rw [w64 (n := (64 : Int) + 7) (by omega) (by omega), show Int.tdiv (64 + 7) 8 = 8 by rfl, w64 (by omega) (by omega)]
        simp only [if_neg (show ¬ (8 : Int) > 200 by omega)]
        exact j3
      · simp only [if_neg h64]
        rw [if_neg h64] at hB
        refine Ev_succ ?_
        simp only [spec_l6Filter.j2]
        rw [w64 (n := q + 7) (by omega) (by omega), Int.tdiv_eq_ediv_of_nonneg (by omega), w64 (by omega) (by omega)]
        by_cases h200 : (q + 7) / 8 > 200
        · simp only [if_pos h200]
          rw [if_pos h200] at hB
          subst hB
          exact j3
        · simp only [if_neg h200]
          rw [if_neg h200] at hB
          rw [show (q + 7) / 8 = (B : Int) by omega]
          exact j3
    unfold spec_l6Filter.f
    rw [w64 (n := perKey * 69) (by omega) (by omega), Int.tdiv_eq_ediv_of_nonneg (by omega), w64 (by omega) (by omega)]
    generalize hW : waysOf perKey = W at j1
    unfold waysOf at hW
    by_cases h1 : perKey * 69 / 100 < 1
    · simp only [if_pos h1]
      rw [if_pos h1] at hW
      subst hW
      refine Ev_succ ?_
      simp only [spec_l6Filter.j0, if_neg (show ¬ (1 : Int) > 8 by omega)]
      exact j1
    · simp only [if_neg h1]
      rw [if_neg h1] at hW
      refine Ev_succ ?_
      simp only [spec_l6Filter.j0]
      by_cases h8 : perKey * 69 / 100 > 8
      · simp only [if_pos h8]
        rw [if_pos h8] at hW
        subst hW
        exact j1
      · simp only [if_neg h8]
        rw [if_neg h8] at hW
        rw [show perKey * 69 / 100 = (W : Int) by omega]
        exact j1
  · rw [decide_eq_false hp, if_neg (by omega)]
    simp only [Bool.false_eq_true, if_false]
    exact Ev.now _
theorem impl_FilterOf_l1 (keys : List ByteArray) (K I w : Int) (r : Int × List Int × Bool) : ∀ (ps pre bits : List Int), (pre ++ ps).length ≤ 1000 → bits.length ≤ 200 → (∀ p ∈ ps, 0 ≤ p ∧ p < 8 * (bits.length : Int)) → Ev (fun k => impl_FilterOf.l0 k keys K (wrap64 (I + 1)) w (ps.foldl setBit bits)) r →
    Ev (fun k => impl_FilterOf.l1 k keys K I (pre ++ ps) ((pre ++ ps).length : Int) (pre.length : Int) w bits) r := by
  intro ps
  induction ps with
  | nil =>
    intro pre bits hl hb hp hr
    refine Ev_succ ?_
    simp only [impl_FilterOf.l1]
    simp only [if_neg (show ¬ (pre.length : Int) < ((pre ++ []).length : Int) by simp)]
    exact hr
  | cons p ps ih =>
    intro pre bits hl hb hp hr
    refine Ev_succ ?_
    have hll : (pre ++ p :: ps).length = pre.length + ps.length + 1 := by simp; omega
    have hrd : rd (pre ++ p :: ps) (pre.length : Int) = p := by rw [rd_lt (by omega)]; simp
    obtain ⟨p0, p1⟩ := hp p (List.mem_cons_self ..)
    obtain ⟨i0, i1, i2, i3⟩ := shr_idx p bits.length p0 p1 hb
    simp only [impl_FilterOf.l1, hrd]
    simp only [if_pos (show (pre.length : Int) < ((pre ++ p :: ps).length : Int) by omega), if_pos (show 0 ≤ (pre.length : Int) by omega), if_pos i0, if_pos i1, if_pos i2]
    rw [w64 (n := (pre.length : Int) + 1) (by omega) (by omega)]
    have e : pre ++ p :: ps = (pre ++ [p]) ++ ps := by simp
    rw [e, show (pre.length : Int) + 1 = ((pre ++ [p]).length : Int) by simp]
    refine ih (pre ++ [p]) (setBit bits p) (by rw [← e]; exact hl) (by rw [setBit_length]; exact hb) (fun q hq => by rw [setBit_length]; exact hp q (List.mem_cons_of_mem _ hq)) hr
theorem impl_FilterOf_l0 (ways : Nat) (m : Nat) (hw : ways ≤ 8) (hm : 1 ≤ m ∧ m ≤ 200) (keys : List ByteArray) (hk : keys.length ≤ 100) (hs : ∀ s ∈ keys, s.size ≤ 1048576) : ∀ (d i : Nat) (bits : List Int), keys.length - i = d → i ≤ keys.length → bits.length = m →
    Ev (fun k => impl_FilterOf.l0 k keys (keys.length : Int) (i : Int) (ways : Int) bits) ((ways : Int), setKeys ways bits (keys.drop i), true) := by
  intro d
  induction d with
  | zero =>
    intro i bits hd hi hb
    refine Ev_succ ?_
    simp only [impl_FilterOf.l0]
    simp only [if_neg (show ¬ (i : Int) < (keys.length : Int) by omega)]
    rw [List.drop_eq_nil_of_le (by omega)]
    exact Ev.now _
  | succ d ih =>
    intro i bits hd hi hb
    refine Ev_succ ?_
    simp only [impl_FilterOf.l0]
    simp only [if_pos (show (i : Int) < (keys.length : Int) by omega), if_pos (show 0 ≤ (i : Int) by omega)]
    rw [rdOf_lt (by omega), drop_cons (l := keys) (i := i) (by omega)]
    have hsz := hs (keys[i]'(by omega)) (List.getElem_mem _)
    generalize keys[i]'(by omega) = s at hsz ⊢
    refine Ev.bind (impl_places_ev s (by omega) ways bits hw (by omega)) ?_
    rw [hb]
    have hp := placesFrom_range (hashOf s 0) (hashOf s 1) (8 * (m : Int)) (by omega) ways 0
    have hpl : (placesOf s ways m).length = ways := placesFrom_length _ _ _ _ _
    have := impl_FilterOf_l1 keys (keys.length : Int) (i : Int) (ways : Int) ((ways : Int), setKeys ways bits (s :: keys.drop (i + 1)), true) (placesOf s ways m) [] bits (by rw [List.nil_append]; omega) (by omega) (by rw [hb]; exact hp) (by
      rw [w64 (by omega) (by omega)]
      have := ih (i + 1) ((placesOf s ways m).foldl setBit bits) (by omega) (by omega) (by rw [foldBits_length]; exact hb)
      have e : setKeys ways bits (s :: keys.drop (i + 1)) = setKeys ways ((placesOf s ways m).foldl setBit bits) (keys.drop (i + 1)) := by
        unfold setKeys
        rw [List.foldl_cons, hb]
      rw [e]
      exact this)
    exact this
theorem impl_FilterOf_ev (keys : List ByteArray) (hs : ∀ s ∈ keys, s.size ≤ 1048576) (hkl : keys.length ≤ 1048576) (perKey : Int) : Ev (fun k => impl_FilterOf.f k keys perKey) (filterOf keys perKey) := by
  have bad : Ev (fun k => impl_FilterOf.j0 k keys perKey true) (0, [], false) := by
    refine Ev_succ ?_
    simp only [impl_FilterOf.j0, if_true]
    exact Ev.now _
  unfold impl_FilterOf.f filterOf
  by_cases hk : (keys.length : Int) > 100
  · simp only [if_pos hk]; rw [if_neg (by omega)]; exact bad
  simp only [if_neg hk]
  refine Ev.bind (Ev_some (within_eq _ _ _)) ?_
  by_cases hp : 1 ≤ perKey ∧ perKey ≤ 20
  · rw [decide_eq_true hp, if_pos ⟨by omega, hp.1, hp.2⟩, Bool.not_true]
    have hw := waysOf_range perKey
    have hm := bytesFor_range keys.length perKey
    have hkb := keys_bound keys.length perKey (by omega) hp
    refine Ev_succ ?_
    simp only [impl_FilterOf.j0, Bool.false_eq_true, if_false]
    have eW : mn 8 (mx 1 (wrap64 (Int.tdiv (wrap64 (perKey * 69)) 100))) = (waysOf perKey : Int) := by
      rw [w64 (n := perKey * 69) (by omega) (by omega), Int.tdiv_eq_ediv_of_nonneg (by omega), w64 (by omega) (by omega)]
      unfold mn mx waysOf
      repeat' split
      all_goals omega
    have eB : mn 200 (wrap64 (Int.tdiv (wrap64 (mx 64 (wrap64 ((keys.length : Int) * perKey)) + 7)) 8)) = (bytesFor keys.length perKey : Int) := by
      rw [w64 (n := (keys.length : Int) * perKey) (by omega) (by omega)]
      unfold bytesFor
      generalize (keys.length : Int) * perKey = q at hkb
      have hmx : 64 ≤ mx 64 q ∧ mx 64 q ≤ 2000 := by unfold mx; split <;> omega
      rw [w64 (n := mx 64 q + 7) (by omega) (by omega), Int.tdiv_eq_ediv_of_nonneg (by omega), w64 (by omega) (by omega)]
      unfold mn mx
      repeat' split
      all_goals omega
    rw [eW, eB]
    simp only [Int.toNat_natCast, if_pos (show 0 ≤ (bytesFor keys.length perKey : Int) by omega), if_pos (show bytesFor keys.length perKey ≤ 281474976710656 by omega)]
    have := impl_FilterOf_l0 (waysOf perKey) (bytesFor keys.length perKey) hw.2 hm keys (by omega) hs keys.length 0 (List.replicate (bytesFor keys.length perKey) 0) (by omega) (by omega) (by simp)
    exact this
  · rw [decide_eq_false hp, if_neg (by omega), Bool.not_false]
    exact bad
theorem eqFilter_same (w : Int) (l : List Int) (hl : l.length ≤ 4611686018427387904) : Ev (fun k => laws_eqFilter.f k w l w l) true := by
  unfold laws_eqFilter.f
  simp only [if_true]
  exact Ev.bind (eqByteS_same l l hl rfl) (Ev_cast (by simp only [if_true]; exact Ev.now _) rfl)
theorem markFilter_ev (w : Int) (l : List Int) (hl : l.length ≤ 1048576) : Ev (fun k => laws_markFilter.f k w l 1) (1 + (l.length : Int), markedFrom 1 l.length) := by
  unfold laws_markFilter.f
  exact Ev.bind (markByteS_ev l 1 (by omega) (by omega) (by omega)) (Ev.now _)
theorem heldFilter_ev (w : Int) (n : Nat) (hl : n ≤ 1048576) : Ev (fun k => laws_heldFilter.f k w (markedFrom 1 n) 1) (1 + (n : Int)) := by
  unfold laws_heldFilter.f
  refine Ev.bind (heldByteS_ev 1 n (by omega) (by omega) (by omega)) ?_
  simp only [if_neg (show ¬ (1 + (n : Int) < 0) by omega)]
  exact Ev.now _
theorem FnExactFilterOf : laws_FnExactFilterOf.Pure := by
  intro keys perKey h0 h1
  have hkl : keys.length ≤ 9223372036854775807 := by have := h0.1; unfold maxLen at this; omega
  refine Ev.rounds ?_
  unfold laws_FnExactFilterOf.f
  obtain ⟨z, hz, hz2⟩ := szStringS_ev keys hkl (fun s hs => by have := h0.2 s hs; unfold maxLen at this; omega)
  refine Ev.bind hz ?_
  by_cases hh : z < 0
  · simp only [if_pos hh]; exact Ev.now _
  obtain ⟨hl, hs⟩ := hz2.resolve_left hh
  simp only [if_neg hh]
  have hr := filterOf_length keys perKey
  refine Ev.bind (toStringS_ev keys (by omega)) ?_
  refine Ev.bind (spec_FilterOf_ev keys hs hl perKey) ?_
  refine Ev.bind (toStringS_ev keys (by omega)) ?_
  refine Ev.bind (impl_FilterOf_ev keys hs hl perKey) ?_
  refine Ev.bind (eqFilter_same _ _ (by omega)) ?_
  simp only [if_true, bne_self_eq_false]
  refine Ev_succ ?_
  simp only [laws_FnExactFilterOf.j0, Bool.false_eq_true, if_false]
  refine Ev.bind (toStringS_ev keys (by omega)) ?_
  refine Ev.bind (eqStringS_same keys (by omega)) ?_
  simp only [if_true]
  obtain ⟨q, hq, hq0⟩ := markStringS_ev keys hl
  refine Ev.bind hq ?_
  simp only [if_neg (show ¬ q.1 < 0 by omega)]
  refine Ev.bind (eqFilter_same _ _ (by omega)) ?_
  simp only [if_true, bne_self_eq_false]
  refine Ev_succ ?_
  simp only [laws_FnExactFilterOf.j1, Bool.false_eq_true, if_false]
  refine Ev.bind (markFilter_ev _ _ (by omega)) ?_
  refine Ev.bind (heldFilter_ev _ _ (by omega)) ?_
  simp only [if_neg (show ¬ (1 + ((filterOf keys perKey).2.1.length : Int) < 0) by omega), if_true]
  refine Ev.bind (toStringS_ev keys (by omega)) ?_
  refine Ev.bind (impl_FilterOf_ev keys hs hl perKey) ?_
  refine Ev.bind (eqFilter_same _ _ (by omega)) ?_
  simp only [if_true, bne_self_eq_false]
  refine Ev_succ ?_
  simp only [laws_FnExactFilterOf.j2, Bool.false_eq_true, if_false]
  refine Ev.bind (heldFilter_ev _ _ (by omega)) ?_
  simp only [if_neg (show ¬ (1 + ((filterOf keys perKey).2.1.length : Int) < 0) by omega), if_true]
  exact Ev.now _
end Go.Proofs.Ytolpkckaijeahaa.Pure
