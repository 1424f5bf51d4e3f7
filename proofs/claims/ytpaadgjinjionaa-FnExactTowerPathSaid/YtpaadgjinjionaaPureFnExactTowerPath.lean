/- The law FnExactTowerPath answers true, for all keys, towers and texts. -/
import Derived.Test.YtpaadgjinjionaaPFnExactTowerPathx5
import Derived.Test.YtpaadgjinjionaaPFnExactTowerPathx5
set_option linter.unusedVariables false
set_option linter.unusedSimpArgs false
namespace Go.Proofs.Ytpaadgjinjionaa.Pure
open Go.RowKit Go.Proofs.Ytpaadgjinjionaa.PFnExactTowerPath Go.Proofs.YtpaadgjinjionaaW Go.Proofs.YtpaadgjinjionaaW.PrintWords Go.Proofs.YtpaadgjinjionaaW.PrintLast Go.Proofs.YtpaadgjinjionaaW.PrintMore
/-! ### base: rounds, numbers -/
theorem Ev_succ {α : Type} {g : Nat → Option α} {r : α} (h : Ev (fun k => g (k + 1)) r) : Ev g r := Ev.step (fun _ => rfl) h
theorem Ev_some {α : Type} {o : Option α} {r : α} (h : o = some r) : Ev (fun _ => o) r := ⟨0, fun _ _ => h⟩
theorem Ev_cast {α : Type} {g : Nat → Option α} {r q : α} (h : Ev g r) (e : r = q) : Ev g q := e ▸ h
theorem w64 {n : Int} (h : -9223372036854775808 ≤ n) (h' : n ≤ 9223372036854775807) : wrap64 n = n := by unfold wrap64; omega
theorem wf_i64 {n : Int} (h : (Lit.int .i64 n).wf = true) : -9223372036854775808 ≤ n ∧ n ≤ 9223372036854775807 := by
  simp only [Lit.wf, IntKind.min, IntKind.max, IntKind.signed, IntKind.bits, Bool.and_eq_true, decide_eq_true_eq, if_true] at h
  omega
theorem wf_u64 {n : Int} (h : (Lit.int .u64 n).wf = true) : 0 ≤ n ∧ n ≤ 18446744073709551615 := by
  simp only [Lit.wf, IntKind.min, IntKind.max, IntKind.signed, IntKind.bits, Bool.and_eq_true, decide_eq_true_eq, if_true] at h
  simp at h
  omega
theorem wf_u8 {n : Int} (h : (Lit.int .u8 n).wf = true) : 0 ≤ n ∧ n ≤ 255 := by
  simp only [Lit.wf, IntKind.min, IntKind.max, IntKind.signed, IntKind.bits, Bool.and_eq_true, decide_eq_true_eq, if_true] at h
  simp at h
  omega
theorem wrap_u64 (n : Int) : IntKind.u64.wrap n = n % 18446744073709551616 := by simp [IntKind.wrap, IntKind.bits, IntKind.signed]
theorem wrap_u32 (n : Int) : IntKind.u32.wrap n = n % 4294967296 := by simp [IntKind.wrap, IntKind.bits, IntKind.signed]
/-- A list of bytes. -/
def Bytes (l : List Int) : Prop := ∀ x ∈ l, 0 ≤ x ∧ x ≤ 255
theorem Bytes.wf {l : List Int} (h : ∀ x ∈ l, (Lit.int .u8 x).wf = true) : Bytes l := fun x hx => wf_u8 (h x hx)
theorem Bytes.nil : Bytes [] := fun x hx => by cases hx
theorem Bytes.app {a b : List Int} (h : Bytes a) (k : Bytes b) : Bytes (a ++ b) := fun x hx => by
  rcases List.mem_append.1 hx with h' | h'
  · exact h x h'
  · exact k x h'
theorem Bytes.one {x : Int} (h : 0 ≤ x) (h' : x ≤ 255) : Bytes [x] := fun y hy => (List.mem_singleton.1 hy) ▸ ⟨h, h'⟩
theorem Bytes.sub {a b : List Int} (h : Bytes a) (k : ∀ x ∈ b, x ∈ a) : Bytes b := fun x hx => h x (k x hx)
theorem Bytes.take {a : List Int} (h : Bytes a) (n : Nat) : Bytes (a.take n) := h.sub fun _ hx => List.mem_of_mem_take hx
theorem Bytes.drop {a : List Int} (h : Bytes a) (n : Nat) : Bytes (a.drop n) := h.sub fun _ hx => List.mem_of_mem_drop hx
theorem rd_lt {l : List Int} {i : Nat} (h : i < l.length) : rd l (i : Int) = l[i] := by simp [rd, h]
theorem Bytes.rd {l : List Int} (h : Bytes l) (i : Int) : 0 ≤ rd l i ∧ rd l i ≤ 255 := by
  unfold PrintWords.rd
  by_cases hi : i.toNat < l.length
  · rw [List.getD_eq_getElem?_getD, List.getElem?_eq_getElem hi]; exact h _ (List.getElem_mem hi)
  · rw [List.getD_eq_getElem?_getD, List.getElem?_eq_none (by omega)]; simp
theorem drop_cons {α : Type} {l : List α} {i : Nat} (h : i < l.length) : l.drop i = l[i] :: l.drop (i + 1) := List.drop_eq_getElem_cons h
theorem within_eq (a b c : Int) : impl_within.f a b c = some (decide (b ≤ a ∧ a ≤ c)) := by
  unfold impl_within.f
  by_cases h : a ≥ b
  · rw [if_pos h]; simp; intro; omega
  · rw [if_neg h]; simp; intro; omega
theorem l1In_eq (a b c : Int) : spec_l1In.f a b c = some (decide (b ≤ a ∧ a ≤ c)) := by
  unfold spec_l1In.f
  by_cases h : a ≥ b
  · rw [if_pos h]; simp; intro; omega
  · rw [if_neg h]; simp; intro; omega
/-! ### the laws' own words on bytes -/
theorem eqIntS_l0 (a b : List Int) (hl : a.length = b.length) (hb : a.length ≤ 4611686018427387904) :
    ∀ (d i : Nat), a.length - i = d → i ≤ a.length → Ev (fun k => laws_eqIntS.l0 k a b (i : Int)) (decide (a.drop i = b.drop i)) := by
  intro d
  induction d with
  | zero =>
    intro i hd hi
    refine Ev_succ ?_
    simp only [laws_eqIntS.l0]
    simp only [if_neg (show ¬ (i : Int) < (a.length : Int) by omega)]
    exact Ev_cast (Ev.now _) (by rw [List.drop_eq_nil_of_le (by omega), List.drop_eq_nil_of_le (by omega)]; simp)
  | succ d ih =>
    intro i hd hi
    refine Ev_succ ?_
    simp only [laws_eqIntS.l0]
    simp only [if_pos (show (i : Int) < (a.length : Int) by omega), if_pos (show 0 ≤ (i : Int) by omega), if_pos (show (i : Int) < (b.length : Int) by omega)]
    rw [rd_lt (by omega), rd_lt (by omega), w64 (by omega) (by omega), drop_cons (l := a) (by omega), drop_cons (l := b) (i := i) (by omega)]
    by_cases e : a[i]'(by omega) = b[i]'(by omega)
    · simp only [if_pos e]
      exact Ev_cast (ih (i + 1) (by omega) (by omega)) (decide_eq_decide.2 (by rw [List.cons.injEq]; exact ⟨fun h => ⟨e, h⟩, fun h => h.2⟩))
    · simp only [if_neg e]
      exact Ev_cast (Ev.now _) (Eq.symm (decide_eq_false (by rw [List.cons.injEq]; exact fun h => e h.1)))
theorem eqIntS_ev (a b : List Int) (ha : a.length ≤ 4611686018427387904) : Ev (fun k => laws_eqIntS.f k a b) (decide (a = b)) := by
  unfold laws_eqIntS.f
  by_cases h : a.length = b.length
  · simp only [if_pos (show (a.length : Int) = (b.length : Int) by omega)]
    exact eqIntS_l0 a b h ha a.length 0 (by omega) (by omega)
  · simp only [if_neg (show ¬ (a.length : Int) = (b.length : Int) by omega)]
    exact Ev_cast (Ev.now _) (by simp; intro e; exact h (by rw [e]))
theorem eqIntS_same (a b : List Int) (ha : a.length ≤ 4611686018427387904) (e : a = b) : Ev (fun k => laws_eqIntS.f k a b) true := Ev_cast (eqIntS_ev a b ha) (by simp [e])
/-- What a list of whole numbers reads once it was marked from m on. -/
def imarkedFrom (m : Int) : Nat → List Int
  | 0 => []
  | n + 1 => m :: imarkedFrom (m + 1) n
theorem imarkedFrom_length (n : Nat) : ∀ m, (imarkedFrom m n).length = n := by
  induction n with
  | zero => intro m; rfl
  | succ n ih => intro m; simp [imarkedFrom, ih]
theorem markIntS_l0 (m : Int) : ∀ (d i : Nat) (l : List Int), l.length - i = d → i ≤ l.length → l.length ≤ 1152921504606846976 → 0 ≤ m → m ≤ 1152921504606846976 + i →
    Ev (fun k => laws_markIntS.l0 k l m (i : Int)) (m + d, l.take i ++ imarkedFrom m d) := by
  intro d
  induction d generalizing m with
  | zero =>
    intro i l hd hi hl h0 hm
    refine Ev_succ ?_
    simp only [laws_markIntS.l0]
    simp only [if_neg (show ¬ (i : Int) < (l.length : Int) by omega)]
    exact Ev_cast (Ev.now _) (by rw [List.take_of_length_le (by omega)]; simp [imarkedFrom])
  | succ d ih =>
    intro i l hd hi hl h0 hm
    refine Ev_succ ?_
    simp only [laws_markIntS.l0]
    simp only [if_pos (show (i : Int) < (l.length : Int) by omega), if_pos (show 0 ≤ (i : Int) by omega)]
    rw [w64 (n := m + 1) (by omega) (by omega), w64 (by omega) (by omega)]
    refine Ev_cast (ih (m + 1) (i + 1) (l.set i (m)) (by simp; omega) (by simp; omega) (by simpa using hl) (by omega) (by omega)) ?_
    refine Prod.ext (by simp; omega) ?_
    show (l.set i (m)).take (i + 1) ++ imarkedFrom (m + 1) d = l.take i ++ imarkedFrom m (d + 1)
    have : (l.set i (m)).take (i + 1) = l.take i ++ [m] := by
      apply List.ext_getElem?
      intro j
      rw [List.getElem?_take, List.getElem?_append, List.getElem?_set]
      have : (l.take i).length = i := by simp; omega
      rw [this]
      by_cases h1 : j < i
      · rw [if_pos (by omega), if_neg (by omega), if_pos h1, List.getElem?_take, if_pos h1]
      · by_cases h2 : j = i
        · subst h2; simp; omega
        · rw [if_neg (by omega), if_neg h1]; simp; omega
    rw [this]; simp [imarkedFrom]
theorem markIntS_ev (l : List Int) (m : Int) (hl : l.length ≤ 1152921504606846976) (h0 : 0 ≤ m) (hm : m ≤ 1152921504606846976) : Ev (fun k => laws_markIntS.f k l m) (m + l.length, imarkedFrom m l.length) := by
  unfold laws_markIntS.f
  exact Ev_cast (markIntS_l0 m l.length 0 l (by omega) (by omega) hl h0 (by omega)) (by simp)
theorem heldIntS_l0 : ∀ (n : Nat) (m : Int) (i : Nat) (p : List Int), p.length = i → i + n ≤ 1152921504606846976 → 0 ≤ m → m ≤ 1152921504606846976 + i →
    Ev (fun k => laws_heldIntS.l0 k (p ++ imarkedFrom m n) m (i : Int)) (m + n) := by
  intro n
  induction n with
  | zero =>
    intro m i p hp hl h0 hm
    refine Ev_succ ?_
    simp only [laws_heldIntS.l0]
    simp only [imarkedFrom, List.append_nil, if_neg (show ¬ (i : Int) < (p.length : Int) by omega)]
    exact Ev_cast (Ev.now _) (by simp)
  | succ n ih =>
    intro m i p hp hl h0 hm
    refine Ev_succ ?_
    simp only [laws_heldIntS.l0]
    have hlen : (p ++ imarkedFrom m (n + 1)).length = i + n + 1 := by rw [List.length_append, imarkedFrom_length]; omega
    have hr : rd (p ++ imarkedFrom m (n + 1)) (i : Int) = m := by
      rw [rd_lt (by omega)]; simp [imarkedFrom, hp]
    simp only [if_pos (show (i : Int) < ((p ++ imarkedFrom m (n + 1)).length : Int) by omega), if_pos (show 0 ≤ (i : Int) by omega), hr, if_true]
    rw [w64 (n := m + 1) (by omega) (by omega), w64 (by omega) (by omega)]
    have e : p ++ imarkedFrom m (n + 1) = (p ++ [m]) ++ imarkedFrom (m + 1) n := by simp [imarkedFrom]
    rw [e]
    exact Ev_cast (ih (m + 1) (i + 1) (p ++ [m]) (by simp [hp]) (by omega) (by omega) (by omega)) (by omega)
theorem heldIntS_ev (m : Int) (n : Nat) (hl : n ≤ 1152921504606846976) (h0 : 0 ≤ m) (hm : m ≤ 1152921504606846976) : Ev (fun k => laws_heldIntS.f k (imarkedFrom m n) m) (m + n) := by
  unfold laws_heldIntS.f
  exact heldIntS_l0 n m 0 [] rfl (by omega) h0 (by omega)
theorem toIntS_l0 (l : List Int) : ∀ (d i : Nat) (o : List Int), l.length - i = d → i ≤ l.length → l.length ≤ 1152921504606846976 → o.length = l.length → o.take i = l.take i →
    Ev (fun k => laws_toIntS.l0 k l o (i : Int)) l := by
  intro d
  induction d with
  | zero =>
    intro i o hd hi hl ho ht
    refine Ev_succ ?_
    simp only [laws_toIntS.l0]
    simp only [if_neg (show ¬ (i : Int) < (l.length : Int) by omega)]
    exact Ev_cast (Ev.now _) (by rw [List.take_of_length_le (by omega), List.take_of_length_le (by omega)] at ht; exact ht)
  | succ d ih =>
    intro i o hd hi hl ho ht
    refine Ev_succ ?_
    simp only [laws_toIntS.l0]
    simp only [if_pos (show (i : Int) < (l.length : Int) by omega), if_pos (show 0 ≤ (i : Int) by omega), if_pos (show (i : Int) < (o.length : Int) by omega)]
    rw [rd_lt (by omega), w64 (by omega) (by omega)]
    refine ih (i + 1) _ (by omega) (by omega) hl (by simpa using ho) ?_
    apply List.ext_getElem?
    intro j
    rw [List.getElem?_take, List.getElem?_take]
    by_cases h1 : j < i
    · have := congrArg (fun x => x[j]?) ht
      simp only [List.getElem?_take, if_pos h1] at this
      rw [if_pos (by omega), if_pos (by omega), List.getElem?_set]
      simp only [Int.toNat_natCast]
      rw [if_neg (by omega), this]
    · by_cases h2 : j = i
      · subst h2
        rw [if_pos (by omega), if_pos (by omega)]
        simp [show j < l.length by omega, show j < o.length by omega]
      · rw [if_neg (by omega), if_neg (by omega)]
theorem toIntS_ev (l : List Int) (hl : l.length ≤ 35184372088832) : Ev (fun k => laws_toIntS.f k l) l := by
  unfold laws_toIntS.f
  simp only [if_pos (show 0 ≤ (l.length : Int) by omega), Int.toNat_natCast, if_pos hl]
  exact toIntS_l0 l l.length 0 _ (by omega) (by omega) (by omega) (by simp) (by simp)
/-! ### the laws' own words on texts -/
theorem rdOf_lt {α : Type} {d : α} {l : List α} {i : Nat} (h : i < l.length) : rdOf d l (i : Int) = l[i] := by simp [rdOf, h]
theorem szStringS_ev (l : List ByteArray) (hl : l.length ≤ 9223372036854775807) (hs : ∀ s ∈ l, s.size ≤ 9223372036854775807) : ∃ z, Ev (fun k => laws_szStringS.f k l 1048576) z ∧ (z < 0 ∨ (l.length ≤ 1048576 ∧ ∀ s ∈ l, s.size ≤ 1048576)) := by
  have loop : ∀ (d i : Nat) (a : Int), l.length - i = d → i ≤ l.length → l.length ≤ 1048576 → 0 ≤ a → a ≤ 1048576 → ∃ z, Ev (fun k => laws_szStringS.l0 k l a (i : Int)) z ∧ (z < 0 ∨ ∀ s ∈ l.drop i, s.size ≤ 1048576) := by
    intro d
    induction d with
    | zero =>
      intro i a hd hi hl2 h0 h1
      refine ⟨a, Ev_succ ?_, .inr (by rw [List.drop_eq_nil_of_le (by omega)]; intro s hs; cases hs)⟩
      simp only [laws_szStringS.l0]
      simp only [if_neg (show ¬ (i : Int) < (l.length : Int) by omega)]
      exact Ev.now _
    | succ d ih =>
      intro i a hd hi hl2 h0 h1
      have hx := hs (l[i]'(by omega)) (List.getElem_mem _)
      by_cases hn : a - ((l[i]'(by omega)).size : Int) < 0
      · refine ⟨-1, Ev_succ ?_, .inl (by omega)⟩
        simp only [laws_szStringS.l0]
        simp only [if_pos (show (i : Int) < (l.length : Int) by omega), if_pos (show 0 ≤ (i : Int) by omega)]
        rw [rdOf_lt (by omega), w64 (n := a - _) (by omega) (by omega)]
        simp only [if_pos hn]
        exact Ev.now _
      · obtain ⟨z, hz, hz2⟩ := ih (i + 1) (a - ((l[i]'(by omega)).size : Int)) (by omega) (by omega) hl2 (by omega) (by omega)
        refine ⟨z, Ev_succ ?_, ?_⟩
        · simp only [laws_szStringS.l0]
          simp only [if_pos (show (i : Int) < (l.length : Int) by omega), if_pos (show 0 ≤ (i : Int) by omega)]
          rw [rdOf_lt (by omega), w64 (n := a - _) (by omega) (by omega), w64 (n := (i : Int) + 1) (by omega) (by omega)]
          simp only [if_neg hn]
          exact hz
        · rcases hz2 with hz2 | hz2
          · exact .inl hz2
          · refine .inr ?_
            rw [drop_cons (l := l) (i := i) (by omega)]
            intro s hs'
            rcases List.mem_cons.1 hs' with rfl | hs'
            · omega
            · exact hz2 s hs'
  unfold laws_szStringS.f
  rw [w64 (by omega) (by omega)]
  by_cases h : (1048576 : Int) - (l.length : Int) < 0
  · simp only [if_pos h]
    exact ⟨-1, Ev.now _, .inl (by omega)⟩
  · simp only [if_neg h]
    obtain ⟨z, hz, hz2⟩ := loop l.length 0 (1048576 - (l.length : Int)) (by omega) (by omega) (by omega) (by omega) (by omega)
    refine ⟨z, hz, ?_⟩
    rcases hz2 with hz2 | hz2
    · exact .inl hz2
    · exact .inr ⟨by omega, by simpa using hz2⟩
theorem toStringS_l0 (l : List ByteArray) : ∀ (d i : Nat) (o : List ByteArray), l.length - i = d → i ≤ l.length → l.length ≤ 1152921504606846976 → o.length = l.length → o.take i = l.take i →
    Ev (fun k => laws_toStringS.l0 k l o (i : Int)) l := by
  intro d
  induction d with
  | zero =>
    intro i o hd hi hl ho ht
    refine Ev_succ ?_
    simp only [laws_toStringS.l0]
    simp only [if_neg (show ¬ (i : Int) < (l.length : Int) by omega)]
    exact Ev_cast (Ev.now _) (by rw [List.take_of_length_le (by omega), List.take_of_length_le (by omega)] at ht; exact ht)
  | succ d ih =>
    intro i o hd hi hl ho ht
    refine Ev_succ ?_
    simp only [laws_toStringS.l0]
    simp only [if_pos (show (i : Int) < (l.length : Int) by omega), if_pos (show 0 ≤ (i : Int) by omega), if_pos (show (i : Int) < (o.length : Int) by omega)]
    rw [rdOf_lt (by omega), w64 (by omega) (by omega)]
    refine ih (i + 1) _ (by omega) (by omega) hl (by simpa using ho) ?_
    apply List.ext_getElem?
    intro j
    rw [List.getElem?_take, List.getElem?_take]
    by_cases h1 : j < i
    · have := congrArg (fun x => x[j]?) ht
      simp only [List.getElem?_take, if_pos h1] at this
      rw [if_pos (by omega), if_pos (by omega), List.getElem?_set]
      simp only [Int.toNat_natCast]
      rw [if_neg (by omega), this]
    · by_cases h2 : j = i
      · subst h2
        rw [if_pos (by omega), if_pos (by omega)]
        simp [show j < l.length by omega, show j < o.length by omega]
      · rw [if_neg (by omega), if_neg (by omega)]
theorem toStringS_ev (l : List ByteArray) (hl : l.length ≤ 17592186044416) : Ev (fun k => laws_toStringS.f k l) l := by
  unfold laws_toStringS.f
  simp only [if_pos (show 0 ≤ (l.length : Int) by omega), Int.toNat_natCast, if_pos hl]
  exact toStringS_l0 l l.length 0 _ (by omega) (by omega) (by omega) (by simp) (by simp)
theorem eqStringS_same (l : List ByteArray) (hl : l.length ≤ 4611686018427387904) : Ev (fun k => laws_eqStringS.f k l l) true := by
  have loop : ∀ (d i : Nat), l.length - i = d → i ≤ l.length → Ev (fun k => laws_eqStringS.l0 k l l (i : Int)) true := by
    intro d
    induction d with
    | zero =>
      intro i hd hi
      refine Ev_succ ?_
      simp only [laws_eqStringS.l0]
      simp only [if_neg (show ¬ (i : Int) < (l.length : Int) by omega)]
      exact Ev.now _
    | succ d ih =>
      intro i hd hi
      refine Ev_succ ?_
      simp only [laws_eqStringS.l0]
      simp only [if_pos (show (i : Int) < (l.length : Int) by omega), if_pos (show 0 ≤ (i : Int) by omega), if_true]
      rw [w64 (by omega) (by omega)]
      exact ih (i + 1) (by omega) (by omega)
  unfold laws_eqStringS.f
  simp only [if_true]
  exact loop l.length 0 (by omega) (by omega)
theorem markText_l0 : ∀ (n : Nat) (s : ByteArray), s.size + n ≤ 4611686018427387904 → ∃ r, Ev (fun k => laws_markText.l0 k (n : Int) s) r := by
  intro n
  induction n using Nat.strongRecOn with
  | ind n ih =>
    intro s h
    by_cases h0 : 0 < n
    · have hsz : ∀ x : Int, (strOfNums [x]).size = 1 := fun x => by simp [strOfNums]; rfl
      obtain ⟨r, hr⟩ := ih (n / 10) (by omega) (strOfNums [(wrap64 (48 + Int.tmod (n : Int) 10)) % 256] ++ s) (by rw [ByteArray.size_append, hsz]; omega)
      refine ⟨r, Ev_succ ?_⟩
      simp only [laws_markText.l0]
      simp only [if_pos (show (n : Int) > 0 by omega), Option.bind_some]
      simp only [hsz, if_pos (show 1 + s.size ≤ 9223372036854775807 by omega)]
      rw [show wrap64 (Int.tdiv (n : Int) 10) = ((n / 10 : Nat) : Int) by rw [Int.tdiv_eq_ediv_of_nonneg (by omega), w64 (by omega) (by omega)]; omega]
      exact hr
    · refine ⟨(⟨#[109]⟩ : ByteArray) ++ s, Ev_succ ?_⟩
      simp only [laws_markText.l0]
      simp only [if_neg (show ¬ (n : Int) > 0 by omega), if_pos (show 1 + s.size ≤ 9223372036854775807 by omega)]
      exact Ev.now _
theorem markText_ev (n : Nat) (h : n ≤ 1152921504606846976) : ∃ r, Ev (fun k => laws_markText.f k (n : Int)) r := by
  unfold laws_markText.f
  by_cases h0 : (n : Int) ≤ 0
  · simp only [if_pos h0]
    exact ⟨_, Ev.now _⟩
  · simp only [if_neg h0]
    exact markText_l0 n _ (by show 0 + n ≤ _; omega)
theorem markStringS_ev2 (l : List ByteArray) (hl : l.length ≤ 1048576) : ∃ r, Ev (fun k => laws_markStringS.f k l 1) r ∧ 0 ≤ r.1 ∧ r.1 ≤ 1048577 + l.length := by
  have loop : ∀ (d i : Nat) (o : List ByteArray) (m : Nat), o.length - i = d → i ≤ o.length → o.length ≤ 1048576 → m ≤ 1048576 + i → ∃ r, Ev (fun k => laws_markStringS.l0 k o (m : Int) (i : Int)) r ∧ 0 ≤ r.1 ∧ r.1 ≤ 1048577 + o.length := by
    intro d
    induction d with
    | zero =>
      intro i o m hd hi ho hm
      refine ⟨((m : Int), o), Ev_succ ?_, by show 0 ≤ (m : Int); omega, by show (m : Int) ≤ 1048577 + o.length; omega⟩
      simp only [laws_markStringS.l0]
      simp only [if_neg (show ¬ (i : Int) < (o.length : Int) by omega)]
      exact Ev.now _
    | succ d ih =>
      intro i o m hd hi ho hm
      obtain ⟨t, ht⟩ := markText_ev m (by omega)
      obtain ⟨r, hr, h0, h1⟩ := ih (i + 1) (o.set i t) (m + 1) (by simp; omega) (by simp; omega) (by simpa using ho) (by omega)
      refine ⟨r, Ev_succ ?_, h0, by simpa using h1⟩
      simp only [laws_markStringS.l0]
      simp only [if_pos (show (i : Int) < (o.length : Int) by omega)]
      refine Ev.bind ht ?_
      simp only [if_pos (show 0 ≤ (i : Int) by omega), Int.toNat_natCast]
      rw [w64 (n := (m : Int) + 1) (by omega) (by omega), w64 (by omega) (by omega)]
      exact hr
  unfold laws_markStringS.f
  obtain ⟨r, hr, h0, h1⟩ := loop l.length 0 l 1 (by omega) (by omega) hl (by omega)
  exact ⟨r, hr, h0, h1⟩
theorem markStringS_ev (l : List ByteArray) (hl : l.length ≤ 1048576) : ∃ r, Ev (fun k => laws_markStringS.f k l 1) r ∧ 0 ≤ r.1 := by
  obtain ⟨r, h1, h2, _⟩ := markStringS_ev2 l hl
  exact ⟨r, h1, h2⟩
/-! ### the order of texts -/
theorem bytesLess_trans : ∀ (a b c : List UInt8), Op.bytesLess a b = true → Op.bytesLess b c = true → Op.bytesLess a c = true := by
  intro a
  induction a with
  | nil =>
    intro b c h1 h2
    cases b with
    | nil => simp [Op.bytesLess] at h1
    | cons y b => cases c with
      | nil => simp [Op.bytesLess] at h2
      | cons z c => rfl
  | cons x a ih =>
    intro b c h1 h2
    cases b with
    | nil => simp [Op.bytesLess] at h1
    | cons y b =>
      cases c with
      | nil => simp [Op.bytesLess] at h2
      | cons z c =>
        simp only [Op.bytesLess, Bool.or_eq_true, decide_eq_true_eq, Bool.and_eq_true, beq_iff_eq] at h1 h2 ⊢
        rcases h1 with h1 | ⟨rfl, h1⟩
        · rcases h2 with h2 | ⟨rfl, h2⟩
          · exact .inl (UInt8.lt_trans h1 h2)
          · exact .inl h1
        · rcases h2 with h2 | ⟨rfl, h2⟩
          · exact .inl h2
          · exact .inr ⟨rfl, ih b c h1 h2⟩
def less (a b : ByteArray) : Bool := Op.bytesLess a.toList b.toList
theorem less_trans {a b c : ByteArray} (h1 : less a b = true) (h2 : less b c = true) : less a c = true := bytesLess_trans _ _ _ h1 h2
def keyAt (keys : List ByteArray) (i : Nat) : ByteArray := rdOf ByteArray.empty keys (i : Int)
def towerOk (keys : List ByteArray) (towers : List Int) (i : Nat) : Prop := (1 ≤ (keyAt keys i).size ∧ (keyAt keys i).size ≤ 140) ∧ (1 ≤ rd towers (i : Int) ∧ rd towers (i : Int) ≤ 6) ∧ (0 < i → less (keyAt keys (i - 1)) (keyAt keys i) = true)
theorem tower_rising (keys : List ByteArray) (towers : List Int) (h : ∀ i, i < keys.length → towerOk keys towers i) : ∀ (d i : Nat), i + d + 1 < keys.length → less (keyAt keys i) (keyAt keys (i + d + 1)) = true := by
  intro d
  induction d with
  | zero => intro i hi; exact (h (i + 1) hi).2.2 (by omega)
  | succ d ih =>
    intro i hi
    have h1 := ih i (by omega)
    have h2 := (h (i + d + 1 + 1) (by omega)).2.2 (by omega)
    exact less_trans h1 h2
/-- The ways down from a place: both walks, told together. -/
theorem tower_both (keys : List ByteArray) (towers : List Int) (key : ByteArray) (hk : keys.length ≤ 30) (ht : towers.length = keys.length) (hok : ∀ i, i < keys.length → towerOk keys towers i) :
    ∀ (M : Nat) (q i a : Nat) (out : List Int), q * 100 + (keys.length - i) ≤ M → 1 ≤ q → q ≤ 6 → a ≤ i → i ≤ keys.length → (∀ j, j < a → less (keyAt keys j) key = true) → (q = 1 → i = a) → out.length + q * 100 ≤ 1000 + i →
      ∃ r, Ev (fun k => spec_TowerPath.l3 k keys towers key out ((a : Int) - 1) (q : Int) (i : Int)) r ∧ Ev (fun k => impl_TowerPath.l2 k keys towers key out (a : Int) (q : Int) (i : Int)) r ∧ r.1.length ≤ 2000 := by
  intro M
  induction M using Nat.strongRecOn with
  | ind M ih =>
    intro q i a out hM hq hq6 ha hi hL h1 hout
    -- one way lower
    have down : (q = 1 → a = keys.length ∨ less (keyAt keys a) key = false) → ∃ r, Ev (fun k => spec_TowerPath.l1 k keys towers key out ((a : Int) - 1) (wrap64 ((q : Int) - 1))) r ∧ Ev (fun k => impl_TowerPath.l1 k keys towers key out (a : Int) (wrap64 ((q : Int) - 1))) r ∧ r.1.length ≤ 2000 := by
      intro hend
      rw [w64 (by omega) (by omega)]
      by_cases hq1 : q = 1
      · -- the end
        subst hq1
        have hend := hend rfl
        refine ⟨(out, (a : Int), true), Ev_succ ?_, Ev_succ ?_, by show out.length ≤ 2000; omega⟩
        · simp only [spec_TowerPath.l1]
          simp only [if_neg (show ¬ ((1 : Nat) : Int) - 1 > 0 by omega)]
          rw [w64 (by omega) (by omega), show (a : Int) - 1 + 1 = a by omega]
          exact Ev.now _
        · simp only [impl_TowerPath.l1]
          simp only [if_neg (show ¬ ((1 : Nat) : Int) - 1 ≥ 1 by omega)]
          have loop : ∀ (d j : Nat), a - j = d → j ≤ a → Ev (fun k => impl_TowerPath.l3 k keys key out (j : Int)) (out, (a : Int), true) := by
            intro d
            induction d with
            | zero =>
              intro j hd hj
              obtain rfl : j = a := by omega
              refine Ev_succ ?_
              simp only [impl_TowerPath.l3]
              by_cases hlt : (j : Int) < (keys.length : Int)
              · have hn := hend.resolve_left (by omega)
                simp only [if_pos hlt, if_pos (show 0 ≤ (j : Int) by omega)]
                unfold less keyAt at hn
                simp only [hn, Bool.false_eq_true, if_false]
                exact Ev.now _
              · simp only [if_neg hlt]
                exact Ev.now _
            | succ d ihd =>
              intro j hd hj
              refine Ev_succ ?_
              have hl := hL j (by omega)
              unfold less keyAt at hl
              simp only [impl_TowerPath.l3]
              simp only [if_pos (show (j : Int) < (keys.length : Int) by omega), if_pos (show 0 ≤ (j : Int) by omega), hl, if_true]
              rw [w64 (by omega) (by omega)]
              exact ihd (j + 1) (by omega) (by omega)
          exact loop a 0 (by omega) (by omega)
      · obtain ⟨r, r1, r2, r3⟩ := ih ((q - 1) * 100 + (keys.length - a)) (by omega) (q - 1) a a out (Nat.le_refl _) (by omega) (by omega) (Nat.le_refl _) (by omega) hL (fun _ => rfl) (by omega)
        rw [show ((q - 1 : Nat) : Int) = (q : Int) - 1 by omega] at r1 r2
        refine ⟨r, Ev_succ ?_, Ev_succ ?_, r3⟩
        · simp only [spec_TowerPath.l1]
          simp only [if_pos (show (q : Int) - 1 > 0 by omega)]
          refine Ev_succ ?_
          simp only [spec_TowerPath.l2]
          rw [w64 (by omega) (by omega), show (a : Int) - 1 + 1 = a by omega]
          exact r1
        · simp only [impl_TowerPath.l1]
          simp only [if_pos (show (q : Int) - 1 ≥ 1 by omega)]
          exact r2
    by_cases hlt : i < keys.length
    · have hoki := hok i hlt
      by_cases hskip : rd towers (i : Int) < (q : Int)
      · -- its tower is too low
        have hq1 : q ≠ 1 := by have := hoki.2.1; omega
        obtain ⟨r, r1, r2, r3⟩ := ih (q * 100 + (keys.length - (i + 1))) (by omega) q (i + 1) a out (Nat.le_refl _) hq hq6 (by omega) (by omega) hL (fun h => absurd h hq1) (by omega)
        refine ⟨r, Ev_succ ?_, Ev_succ ?_, r3⟩
        · simp only [spec_TowerPath.l3]
          simp only [if_pos (show (i : Int) < (keys.length : Int) by omega), if_pos (show 0 ≤ (i : Int) by omega), if_pos (show (i : Int) < (towers.length : Int) by omega), if_pos hskip]
          rw [w64 (by omega) (by omega)]
          exact r1
        · simp only [impl_TowerPath.l2]
          simp only [if_pos (show (i : Int) < (keys.length : Int) by omega), if_pos (show 0 ≤ (i : Int) by omega), if_pos (show (i : Int) < (towers.length : Int) by omega), if_pos hskip]
          rw [w64 (by omega) (by omega)]
          exact r2
      · by_cases hless : less (keyAt keys i) key = true
        · -- it is gone to
          have hL2 : ∀ j, j < i + 1 → less (keyAt keys j) key = true := by
            intro j hj
            by_cases hj1 : j = i
            · subst hj1; exact hless
            · have hr := tower_rising keys towers hok (i - j - 1) j (by omega)
              rw [show j + (i - j - 1) + 1 = i by omega] at hr
              exact less_trans hr hless
          obtain ⟨r, r1, r2, r3⟩ := ih (q * 100 + (keys.length - (i + 1))) (by omega) q (i + 1) (i + 1) (out ++ [(i : Int)]) (Nat.le_refl _) hq hq6 (Nat.le_refl _) (by omega) hL2 (fun _ => rfl) (by simp; omega)
          rw [show ((i + 1 : Nat) : Int) - 1 = (i : Int) by omega] at r1
          unfold less keyAt at hless
          refine ⟨r, Ev_succ ?_, Ev_succ ?_, r3⟩
          · simp only [spec_TowerPath.l3]
            simp only [if_pos (show (i : Int) < (keys.length : Int) by omega), if_pos (show 0 ≤ (i : Int) by omega), if_pos (show (i : Int) < (towers.length : Int) by omega), if_neg hskip, if_neg (show ¬ (i : Int) = (keys.length : Int) by omega), hless, if_true, if_pos (show out.length < 17592186044416 by omega)]
            refine Ev_succ ?_
            simp only [spec_TowerPath.l2]
            rw [w64 (by omega) (by omega)]
            exact r1
          · simp only [impl_TowerPath.l2]
            simp only [if_pos (show (i : Int) < (keys.length : Int) by omega), if_pos (show 0 ≤ (i : Int) by omega), if_pos (show (i : Int) < (towers.length : Int) by omega), if_neg hskip, hless, if_true, if_pos (show out.length < 17592186044416 by omega)]
            rw [w64 (by omega) (by omega)]
            exact r2
        · -- it is not less
          have hless' : less (keyAt keys i) key = false := by simpa using hless
          obtain ⟨r, r1, r2, r3⟩ := down (fun h => by have := h1 h; subst this; exact .inr hless')
          unfold less keyAt at hless'
          refine ⟨r, Ev_succ ?_, Ev_succ ?_, r3⟩
          · simp only [spec_TowerPath.l3]
            simp only [if_pos (show (i : Int) < (keys.length : Int) by omega), if_pos (show 0 ≤ (i : Int) by omega), if_pos (show (i : Int) < (towers.length : Int) by omega), if_neg hskip, if_neg (show ¬ (i : Int) = (keys.length : Int) by omega), hless', Bool.false_eq_true, if_false]
            exact r1
          · simp only [impl_TowerPath.l2]
            simp only [if_pos (show (i : Int) < (keys.length : Int) by omega), if_pos (show 0 ≤ (i : Int) by omega), if_pos (show (i : Int) < (towers.length : Int) by omega), if_neg hskip, hless', Bool.false_eq_true, if_false]
            exact r2
    · -- the end of the way
      have hie : i = keys.length := by omega
      obtain ⟨r, r1, r2, r3⟩ := down (fun h => by have := h1 h; exact .inl (by omega))
      refine ⟨r, Ev_succ ?_, Ev_succ ?_, r3⟩
      · simp only [spec_TowerPath.l3]
        simp only [if_neg (show ¬ (i : Int) < (keys.length : Int) by omega), if_pos (show (i : Int) = (keys.length : Int) by omega)]
        exact r1
      · simp only [impl_TowerPath.l2]
        simp only [if_neg (show ¬ (i : Int) < (keys.length : Int) by omega)]
        exact r2
theorem isKeyText_eq (s : ByteArray) : impl_isKeyText.f s = some (decide (1 ≤ s.size ∧ s.size ≤ 140)) := by
  unfold impl_isKeyText.f
  rw [within_eq, Option.bind_some]
  congr 1
  rw [decide_eq_decide]
  omega
/-- The look at the arguments, and what comes behind it. -/
theorem tower_look (keys : List ByteArray) (towers : List Int) (key : ByteArray) (hk : keys.length ≤ 30) (ht : towers.length = keys.length) : ∀ (d i : Nat), keys.length - i = d → i ≤ keys.length → (∀ j, j < i → towerOk keys towers j) →
    ∃ r, Ev (fun k => spec_TowerPath.l0 k keys towers key keys (keys.length : Int) (i : Int)) r ∧ Ev (fun k => impl_TowerPath.l0 k keys towers key keys (keys.length : Int) (i : Int)) r ∧ r.1.length ≤ 2000 := by
  intro d
  induction d with
  | zero =>
    intro i hd hi hok
    have hie : i = keys.length := by omega
    obtain ⟨r, r1, r2, r3⟩ := tower_both keys towers key hk ht (fun j hj => hok j (by omega)) (6 * 100 + keys.length) 6 0 0 [] (by omega) (by omega) (by omega) (by omega) (by omega) (fun j hj => absurd hj (by omega)) (fun h => absurd h (by omega)) (by simp)
    refine ⟨r, Ev_succ ?_, Ev_succ ?_, r3⟩
    · simp only [spec_TowerPath.l0]
      simp only [if_neg (show ¬ (i : Int) < (keys.length : Int) by omega)]
      refine Ev_succ ?_
      simp only [spec_TowerPath.l1, if_pos (show (6 : Int) > 0 by omega)]
      refine Ev_succ ?_
      simp only [spec_TowerPath.l2]
      rw [w64 (by omega) (by omega)]
      exact r1
    · simp only [impl_TowerPath.l0]
      simp only [if_neg (show ¬ (i : Int) < (keys.length : Int) by omega)]
      refine Ev_succ ?_
      simp only [impl_TowerPath.l1, if_pos (show (6 : Int) ≥ 1 by omega)]
      exact r2
  | succ d ih =>
    intro i hd hi hok
    have hlt : i < keys.length := by omega
    by_cases g : towerOk keys towers i
    · obtain ⟨r, r1, r2, r3⟩ := ih (i + 1) (by omega) (by omega) (fun j hj => (Nat.lt_or_ge j i).elim (hok j) (fun hj2 => (show i = j by omega) ▸ g))
      obtain ⟨g1, g2, g3⟩ := g
      unfold keyAt at g1
      refine ⟨r, Ev_succ ?_, Ev_succ ?_, r3⟩
      · simp only [spec_TowerPath.l0]
        simp only [if_pos (show (i : Int) < (keys.length : Int) by omega), if_pos (show 0 ≤ (i : Int) by omega)]
        refine Ev.bind (Ev_some (l1In_eq _ _ _)) ?_
        rw [decide_eq_true (by omega)]
        simp only [if_true, if_pos (show (i : Int) < (towers.length : Int) by omega)]
        refine Ev.bind (Ev_some (l1In_eq _ _ _)) ?_
        rw [decide_eq_true g2, w64 (n := (i : Int) + 1) (by omega) (by omega)]
        simp only [if_true]
        by_cases h0 : 0 < i
        · have g3 := g3 h0
          unfold less keyAt at g3
          rw [w64 (n := (i : Int) - 1) (by omega) (by omega), show (i : Int) - 1 = ((i - 1 : Nat) : Int) by omega]
          simp only [if_pos (show (i : Int) > 0 by omega), if_pos (show 0 ≤ ((i - 1 : Nat) : Int) by omega), if_pos (show ((i - 1 : Nat) : Int) < (keys.length : Int) by omega), g3, if_true]
          exact r1
        · simp only [if_neg (show ¬ (i : Int) > 0 by omega)]
          exact r1
      · simp only [impl_TowerPath.l0]
        simp only [if_pos (show (i : Int) < (keys.length : Int) by omega), if_pos (show 0 ≤ (i : Int) by omega)]
        refine Ev.bind (Ev_some (isKeyText_eq _)) ?_
        rw [decide_eq_true g1, w64 (n := (i : Int) + 1) (by omega) (by omega)]
        simp only [if_true, if_pos (show (i : Int) < (towers.length : Int) by omega)]
        by_cases h0 : 0 < i
        · have g3 := g3 h0
          unfold less keyAt at g3
          rw [w64 (n := (i : Int) - 1) (by omega) (by omega), show (i : Int) - 1 = ((i - 1 : Nat) : Int) by omega]
          simp only [if_pos (show (i : Int) > 0 by omega), if_pos (show 0 ≤ ((i - 1 : Nat) : Int) by omega), if_pos (show ((i - 1 : Nat) : Int) < (keys.length : Int) by omega), g3, if_true]
          refine Ev.bind (Ev_some (within_eq _ _ _)) ?_
          rw [decide_eq_true g2]
          simp only [if_true]
          exact r2
        · simp only [if_neg (show ¬ (i : Int) > 0 by omega)]
          refine Ev.bind (Ev_some (within_eq _ _ _)) ?_
          rw [decide_eq_true g2]
          simp only [if_true]
          exact r2
    · refine ⟨([], 0, false), Ev_succ ?_, Ev_succ ?_, by simp⟩
      · simp only [spec_TowerPath.l0]
        simp only [if_pos (show (i : Int) < (keys.length : Int) by omega), if_pos (show 0 ≤ (i : Int) by omega)]
        refine Ev.bind (Ev_some (l1In_eq _ _ _)) ?_
        by_cases g1 : 1 ≤ ((rdOf ByteArray.empty keys (i : Int)).size : Int) ∧ ((rdOf ByteArray.empty keys (i : Int)).size : Int) ≤ 140
        · rw [decide_eq_true g1]
          simp only [if_true, if_pos (show (i : Int) < (towers.length : Int) by omega)]
          refine Ev.bind (Ev_some (l1In_eq _ _ _)) ?_
          by_cases g2 : 1 ≤ rd towers (i : Int) ∧ rd towers (i : Int) ≤ 6
          · rw [decide_eq_true g2]
            simp only [if_true]
            have g3 : 0 < i ∧ less (keyAt keys (i - 1)) (keyAt keys i) = false := by
              by_cases h0 : 0 < i
              · refine ⟨h0, ?_⟩
                cases hl : less (keyAt keys (i - 1)) (keyAt keys i) with
                | false => rfl
                | true => exact absurd ⟨by unfold keyAt; omega, g2, fun _ => hl⟩ g
              · exact absurd ⟨by unfold keyAt; omega, g2, fun h => absurd h h0⟩ g
            obtain ⟨h0, g3⟩ := g3
            unfold less keyAt at g3
            rw [w64 (n := (i : Int) - 1) (by omega) (by omega), show (i : Int) - 1 = ((i - 1 : Nat) : Int) by omega]
            simp only [if_pos (show (i : Int) > 0 by omega), if_pos (show 0 ≤ ((i - 1 : Nat) : Int) by omega), if_pos (show ((i - 1 : Nat) : Int) < (keys.length : Int) by omega), g3, Bool.false_eq_true, if_false]
            exact Ev.now _
          · rw [decide_eq_false g2]
            simp only [Bool.false_eq_true, if_false]
            exact Ev.now _
        · rw [decide_eq_false g1]
          simp only [Bool.false_eq_true, if_false]
          exact Ev.now _
      · simp only [impl_TowerPath.l0]
        simp only [if_pos (show (i : Int) < (keys.length : Int) by omega), if_pos (show 0 ≤ (i : Int) by omega)]
        refine Ev.bind (Ev_some (isKeyText_eq _)) ?_
        by_cases g1 : 1 ≤ (rdOf ByteArray.empty keys (i : Int)).size ∧ (rdOf ByteArray.empty keys (i : Int)).size ≤ 140
        · rw [decide_eq_true g1]
          simp only [if_true, if_pos (show (i : Int) < (towers.length : Int) by omega)]
          by_cases h0 : 0 < i
          · rw [w64 (n := (i : Int) - 1) (by omega) (by omega), show (i : Int) - 1 = ((i - 1 : Nat) : Int) by omega]
            simp only [if_pos (show (i : Int) > 0 by omega), if_pos (show 0 ≤ ((i - 1 : Nat) : Int) by omega), if_pos (show ((i - 1 : Nat) : Int) < (keys.length : Int) by omega)]
            cases hl : Op.bytesLess (rdOf ByteArray.empty keys ((i - 1 : Nat) : Int)).toList (rdOf ByteArray.empty keys (i : Int)).toList with
            | false =>
              simp only [Bool.false_eq_true, if_false]
              exact Ev.now _
            | true =>
              simp only [if_true]
              refine Ev.bind (Ev_some (within_eq _ _ _)) ?_
              rw [decide_eq_false (fun g2 => g ⟨g1, g2, fun _ => hl⟩)]
              simp only [Bool.false_eq_true, if_false]
              exact Ev.now _
          · simp only [if_neg (show ¬ (i : Int) > 0 by omega)]
            refine Ev.bind (Ev_some (within_eq _ _ _)) ?_
            rw [decide_eq_false (fun g2 => g ⟨g1, g2, fun h => absurd h h0⟩)]
            simp only [Bool.false_eq_true, if_false]
            exact Ev.now _
        · rw [decide_eq_false g1]
          simp only [Bool.false_eq_true, if_false]
          exact Ev.now _
theorem towerPath_R (keys : List ByteArray) (towers : List Int) (key : ByteArray) : ∃ r, Ev (fun k => spec_TowerPath.f k keys towers key) r ∧ Ev (fun k => impl_TowerPath.f k keys towers key) r ∧ r.1.length ≤ 2000 := by
  have bad : ∃ r, Ev (fun k => spec_TowerPath.j0 k keys towers key true) r ∧ Ev (fun k => impl_TowerPath.j0 k keys towers key true) r ∧ r.1.length ≤ 2000 := by
    refine ⟨([], 0, false), Ev_succ ?_, Ev_succ ?_, by simp⟩
    · simp only [spec_TowerPath.j0, if_true]; exact Ev.now _
    · simp only [impl_TowerPath.j0, if_true]; exact Ev.now _
  unfold spec_TowerPath.f impl_TowerPath.f
  by_cases hk : (keys.length : Int) > 30
  · simp only [if_pos hk]; exact bad
  · simp only [if_neg hk]
    by_cases ht : towers.length = keys.length
    · rw [show ((towers.length : Int) != (keys.length : Int)) = false by simp [ht]]
      obtain ⟨r, r1, r2, r3⟩ := tower_look keys towers key (by omega) ht keys.length 0 (by omega) (by omega) (fun j hj => absurd hj (by omega))
      refine ⟨r, Ev_succ ?_, Ev_succ ?_, r3⟩
      · simp only [spec_TowerPath.j0, Bool.false_eq_true, if_false]; exact r1
      · simp only [impl_TowerPath.j0, Bool.false_eq_true, if_false]; exact r2
    · rw [show ((towers.length : Int) != (keys.length : Int)) = true by simp; omega]
      exact bad
theorem FnExactTowerPath : laws_FnExactTowerPath.Pure := by
  intro keys towers key h0 h1 h2
  have hkl : keys.length ≤ 9223372036854775807 := by have := h0.1; unfold maxLen at this; omega
  refine Ev.rounds ?_
  unfold laws_FnExactTowerPath.f
  by_cases b1 : (towers.length : Int) > 1048576
  · simp only [if_pos b1]; exact Ev.now _
  by_cases b2 : (key.size : Int) > 1048576
  · simp only [if_neg b1, if_pos b2]; exact Ev.now _
  simp only [if_neg b1, if_neg b2]
  obtain ⟨z, hz, hz2⟩ := szStringS_ev keys hkl (fun s hs => by have := h0.2 s hs; unfold maxLen at this; omega)
  refine Ev.bind hz ?_
  by_cases hh : z < 0
  · simp only [if_pos hh]; exact Ev.now _
  obtain ⟨hl, hs⟩ := hz2.resolve_left hh
  have htl : towers.length ≤ 1048576 := by omega
  obtain ⟨R, hsp, him, hr⟩ := towerPath_R keys towers key
  simp only [if_neg hh]
  refine Ev.bind (toStringS_ev keys (by omega)) ?_
  refine Ev.bind (toIntS_ev towers (by omega)) ?_
  refine Ev.bind hsp ?_
  refine Ev.bind (toStringS_ev keys (by omega)) ?_
  refine Ev.bind (toIntS_ev towers (by omega)) ?_
  refine Ev.bind him ?_
  refine Ev.bind (eqIntS_same _ _ (by omega) rfl) ?_
  simp only [if_true, bne_self_eq_false]
  refine Ev_succ ?_
  simp only [laws_FnExactTowerPath.j0, Bool.false_eq_true, if_false]
  refine Ev.bind (toStringS_ev keys (by omega)) ?_
  refine Ev.bind (eqStringS_same keys (by omega)) ?_
  simp only [if_true]
  refine Ev.bind (toIntS_ev towers (by omega)) ?_
  refine Ev.bind (eqIntS_same _ _ (by omega) rfl) ?_
  simp only [if_true]
  obtain ⟨q, hq, hq0, hq1⟩ := markStringS_ev2 keys hl
  refine Ev.bind hq ?_
  refine Ev.bind (markIntS_ev towers q.1 (by omega) (by omega) (by omega)) ?_
  simp only [if_neg (show ¬ (q.1 + (towers.length : Int) < 0) by omega)]
  refine Ev.bind (eqIntS_same _ _ (by omega) rfl) ?_
  simp only [if_true, bne_self_eq_false]
  refine Ev_succ ?_
  simp only [laws_FnExactTowerPath.j1, Bool.false_eq_true, if_false]
  refine Ev.bind (markIntS_ev _ 1 (by omega) (by omega) (by omega)) ?_
  refine Ev.bind (heldIntS_ev 1 _ (by omega) (by omega) (by omega)) ?_
  simp only [if_neg (show ¬ (1 + (R.1.length : Int) < 0) by omega), if_true]
  refine Ev.bind (toStringS_ev keys (by omega)) ?_
  refine Ev.bind (toIntS_ev towers (by omega)) ?_
  refine Ev.bind him ?_
  refine Ev.bind (eqIntS_same _ _ (by omega) rfl) ?_
  simp only [if_true, bne_self_eq_false]
  refine Ev_succ ?_
  simp only [laws_FnExactTowerPath.j2, Bool.false_eq_true, if_false]
  refine Ev.bind (heldIntS_ev 1 _ (by omega) (by omega) (by omega)) ?_
  simp only [if_neg (show ¬ (1 + (R.1.length : Int) < 0) by omega), if_true]
  exact Ev.now _
end Go.Proofs.Ytpaadgjinjionaa.Pure
