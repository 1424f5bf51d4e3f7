/- The law FnExactJoinAggs answers true, for all aggs. -/
import Derived.Test.YtncnfkcnimfbmaaPFnExactJoinAggsx8
set_option linter.unusedVariables false
set_option linter.unusedSimpArgs false
namespace Go.Proofs.Ytncnfkcnimfbmaa.Pure
open Go.RowKit Go.Proofs.Ytncnfkcnimfbmaa.PFnExactJoinAggs Go.Proofs.YtncnfkcnimfbmaaW Go.Proofs.YtncnfkcnimfbmaaW.PrintWords Go.Proofs.YtncnfkcnimfbmaaW.PrintLast Go.Proofs.YtncnfkcnimfbmaaW.PrintMore
/-! ### base: rounds, numbers -/
theorem Ev_succ {α : Type} {g : Nat → Option α} {r : α} (h : Ev (fun k => g (k + 1)) r) : Ev g r := Ev.step (fun _ => rfl) h
theorem Ev_some {α : Type} {o : Option α} {r : α} (h : o = some r) : Ev (fun _ => o) r := ⟨0, fun _ _ => h⟩
theorem Ev_cast {α : Type} {g : Nat → Option α} {r q : α} (h : Ev g r) (e : r = q) : Ev g q := e ▸ h
theorem w64 {n : Int} (h : -9223372036854775808 ≤ n) (h' : n ≤ 9223372036854775807) : wrap64 n = n := by unfold wrap64; omega
theorem wf_i64 {n : Int} (h : (Lit.int .i64 n).wf = true) : -9223372036854775808 ≤ n ∧ n ≤ 9223372036854775807 := by
  simp only [Lit.wf, IntKind.min, IntKind.max, IntKind.signed, IntKind.bits, Bool.and_eq_true, decide_eq_true_eq, if_true] at h
  omega
theorem wf_u64 {n : Int} (h : (Lit.int .u64 n).wf = true) : 0 ≤ n ∧ n ≤ 18446744073709551615 := by
  simp only [Lit.wf, IntKind.min, IntKind.max, IntKind.signed, IntKind.bits, Bool.and_eq_true, decide_eq_true_eq, if_true] at h
  simp at h
  omega
theorem wf_u8 {n : Int} (h : (Lit.int .u8 n).wf = true) : 0 ≤ n ∧ n ≤ 255 := by
  simp only [Lit.wf, IntKind.min, IntKind.max, IntKind.signed, IntKind.bits, Bool.and_eq_true, decide_eq_true_eq, if_true] at h
  simp at h
  omega
theorem wrap_u64 (n : Int) : IntKind.u64.wrap n = n % 18446744073709551616 := by simp [IntKind.wrap, IntKind.bits, IntKind.signed]
theorem wrap_u32 (n : Int) : IntKind.u32.wrap n = n % 4294967296 := by simp [IntKind.wrap, IntKind.bits, IntKind.signed]
/-- A list of bytes. -/
def Bytes (l : List Int) : Prop := ∀ x ∈ l, 0 ≤ x ∧ x ≤ 255
theorem Bytes.wf {l : List Int} (h : ∀ x ∈ l, (Lit.int .u8 x).wf = true) : Bytes l := fun x hx => wf_u8 (h x hx)
theorem Bytes.nil : Bytes [] := fun x hx => by cases hx
theorem Bytes.app {a b : List Int} (h : Bytes a) (k : Bytes b) : Bytes (a ++ b) := fun x hx => by
  rcases List.mem_append.1 hx with h' | h'
  · exact h x h'
  · exact k x h'
theorem Bytes.one {x : Int} (h : 0 ≤ x) (h' : x ≤ 255) : Bytes [x] := fun y hy => (List.mem_singleton.1 hy) ▸ ⟨h, h'⟩
theorem Bytes.sub {a b : List Int} (h : Bytes a) (k : ∀ x ∈ b, x ∈ a) : Bytes b := fun x hx => h x (k x hx)
theorem Bytes.take {a : List Int} (h : Bytes a) (n : Nat) : Bytes (a.take n) := h.sub fun _ hx => List.mem_of_mem_take hx
theorem Bytes.drop {a : List Int} (h : Bytes a) (n : Nat) : Bytes (a.drop n) := h.sub fun _ hx => List.mem_of_mem_drop hx
theorem rd_lt {l : List Int} {i : Nat} (h : i < l.length) : rd l (i : Int) = l[i] := by simp [rd, h]
theorem Bytes.rd {l : List Int} (h : Bytes l) (i : Int) : 0 ≤ rd l i ∧ rd l i ≤ 255 := by
  unfold PrintWords.rd
  by_cases hi : i.toNat < l.length
  · rw [List.getD_eq_getElem?_getD, List.getElem?_eq_getElem hi]; exact h _ (List.getElem_mem hi)
  · rw [List.getD_eq_getElem?_getD, List.getElem?_eq_none (by omega)]; simp
theorem drop_cons {α : Type} {l : List α} {i : Nat} (h : i < l.length) : l.drop i = l[i] :: l.drop (i + 1) := List.drop_eq_getElem_cons h
theorem within_eq (a b c : Int) : impl_within.f a b c = some (decide (b ≤ a ∧ a ≤ c)) := by
  unfold impl_within.f
  by_cases h : a ≥ b
  · rw [if_pos h]; simp; intro; omega
  · rw [if_neg h]; simp; intro; omega
theorem l1In_eq (a b c : Int) : spec_l1In.f a b c = some (decide (b ≤ a ∧ a ≤ c)) := by
  unfold spec_l1In.f
  by_cases h : a ≥ b
  · rw [if_pos h]; simp; intro; omega
  · rw [if_neg h]; simp; intro; omega
theorem l4Value_eq (v : Int) : spec_l4Value.f v = some (decide (-1000000000 ≤ v ∧ v ≤ 1000000000)) := by
  unfold spec_l4Value.f
  rw [l1In_eq]; rfl
theorem isValue_eq (v : Int) : impl_isValue.f v = some (decide (-1000000000 ≤ v ∧ v ≤ 1000000000)) := by
  unfold impl_isValue.f
  rw [within_eq]; rfl
/-! ### the laws' own words on bytes -/
theorem eqIntS_l0 (a b : List Int) (hl : a.length = b.length) (hb : a.length ≤ 4611686018427387904) :
    ∀ (d i : Nat), a.length - i = d → i ≤ a.length → Ev (fun k => laws_eqIntS.l0 k a b (i : Int)) (decide (a.drop i = b.drop i)) := by
  intro d
  induction d with
  | zero =>
    intro i hd hi
    refine Ev_succ ?_
    simp only [laws_eqIntS.l0]
    simp only [if_neg (show ¬ (i : Int) < (a.length : Int) by omega)]
    exact Ev_cast (Ev.now _) (by rw [List.drop_eq_nil_of_le (by omega), List.drop_eq_nil_of_le (by omega)]; simp)
  | succ d ih =>
    intro i hd hi
    refine Ev_succ ?_
    simp only [laws_eqIntS.l0]
    simp only [if_pos (show (i : Int) < (a.length : Int) by omega), if_pos (show 0 ≤ (i : Int) by omega), if_pos (show (i : Int) < (b.length : Int) by omega)]
    rw [rd_lt (by omega), rd_lt (by omega), w64 (by omega) (by omega), drop_cons (l := a) (by omega), drop_cons (l := b) (i := i) (by omega)]
    by_cases e : a[i]'(by omega) = b[i]'(by omega)
    · simp only [if_pos e]
      exact Ev_cast (ih (i + 1) (by omega) (by omega)) (decide_eq_decide.2 (by rw [List.cons.injEq]; exact ⟨fun h => ⟨e, h⟩, fun h => h.2⟩))
    · simp only [if_neg e]
      exact Ev_cast (Ev.now _) (Eq.symm (decide_eq_false (by rw [List.cons.injEq]; exact fun h => e h.1)))
theorem eqIntS_ev (a b : List Int) (ha : a.length ≤ 4611686018427387904) : Ev (fun k => laws_eqIntS.f k a b) (decide (a = b)) := by
  unfold laws_eqIntS.f
  by_cases h : a.length = b.length
  · simp only [if_pos (show (a.length : Int) = (b.length : Int) by omega)]
    exact eqIntS_l0 a b h ha a.length 0 (by omega) (by omega)
  · simp only [if_neg (show ¬ (a.length : Int) = (b.length : Int) by omega)]
    exact Ev_cast (Ev.now _) (by simp; intro e; exact h (by rw [e]))
theorem eqIntS_same (a b : List Int) (ha : a.length ≤ 4611686018427387904) (e : a = b) : Ev (fun k => laws_eqIntS.f k a b) true := Ev_cast (eqIntS_ev a b ha) (by simp [e])
theorem toIntS_l0 (l : List Int) : ∀ (d i : Nat) (o : List Int), l.length - i = d → i ≤ l.length → l.length ≤ 1152921504606846976 → o.length = l.length → o.take i = l.take i →
    Ev (fun k => laws_toIntS.l0 k l o (i : Int)) l := by
  intro d
  induction d with
  | zero =>
    intro i o hd hi hl ho ht
    refine Ev_succ ?_
    simp only [laws_toIntS.l0]
    simp only [if_neg (show ¬ (i : Int) < (l.length : Int) by omega)]
    exact Ev_cast (Ev.now _) (by rw [List.take_of_length_le (by omega), List.take_of_length_le (by omega)] at ht; exact ht)
  | succ d ih =>
    intro i o hd hi hl ho ht
    refine Ev_succ ?_
    simp only [laws_toIntS.l0]
    simp only [if_pos (show (i : Int) < (l.length : Int) by omega), if_pos (show 0 ≤ (i : Int) by omega), if_pos (show (i : Int) < (o.length : Int) by omega)]
    rw [rd_lt (by omega), w64 (by omega) (by omega)]
    refine ih (i + 1) _ (by omega) (by omega) hl (by simpa using ho) ?_
    apply List.ext_getElem?
    intro j
    rw [List.getElem?_take, List.getElem?_take]
    by_cases h1 : j < i
    · have := congrArg (fun x => x[j]?) ht
      simp only [List.getElem?_take, if_pos h1] at this
      rw [if_pos (by omega), if_pos (by omega), List.getElem?_set]
      simp only [Int.toNat_natCast]
      rw [if_neg (by omega), this]
    · by_cases h2 : j = i
      · subst h2
        rw [if_pos (by omega), if_pos (by omega)]
        simp [show j < l.length by omega, show j < o.length by omega]
      · rw [if_neg (by omega), if_neg (by omega)]
theorem toIntS_ev (l : List Int) (hl : l.length ≤ 35184372088832) : Ev (fun k => laws_toIntS.f k l) l := by
  unfold laws_toIntS.f
  simp only [if_pos (show 0 ≤ (l.length : Int) by omega), Int.toNat_natCast, if_pos hl]
  exact toIntS_l0 l l.length 0 _ (by omega) (by omega) (by omega) (by simp) (by simp)
theorem szIntS_eq (l : List Int) (a : Int) (h0 : 0 ≤ a) (h1 : a ≤ 1048576) (hl : l.length ≤ 9223372036854775807) : laws_szIntS.f l a = some (if a - l.length < 0 then -1 else a - l.length) := by
  unfold laws_szIntS.f
  rw [w64 (by omega) (by omega)]
  by_cases h : a - (l.length : Int) < 0
  · simp only [if_pos h]
  · simp only [if_neg h]
/-! ### sums -/
def sum8 : List Int → Int
  | [] => 0
  | x :: t => x + sum8 t
def histOk (h : List Int) : Prop := ∀ x ∈ h, 0 ≤ x ∧ x ≤ 1000000000
instance (h : List Int) : Decidable (histOk h) := inferInstanceAs (Decidable (∀ x ∈ h, 0 ≤ x ∧ x ≤ 1000000000))
theorem histOk_cons (a : Int) (t : List Int) : histOk (a :: t) ↔ (0 ≤ a ∧ a ≤ 1000000000) ∧ histOk t := by
  unfold histOk; simp
def valueOk (v : Int) : Prop := -1000000000 ≤ v ∧ v ≤ 1000000000
instance (v : Int) : Decidable (valueOk v) := inferInstanceAs (Decidable (_ ∧ _))
/-- What is asked behind the histogram; z: all of it together. -/
def aggTail (c s mn mx : Int) (f : Bool) (z : Int) : Prop :=
  (c = 0 ∧ z = 0 ∧ mn = 0 ∧ mx = 0 ∧ s = 0 ∧ f = false) ∨
  (c ≠ 0 ∧ valueOk mn ∧ valueOk mx ∧ mn ≤ mx ∧ ((f = true ∧ s = 0) ∨ (f = false ∧ z = c ∧ -1000000000 * c ≤ s ∧ s ≤ 1000000000 * c)))
def goodAgg (c s mn mx : Int) (h : List Int) (f : Bool) : Prop := (0 ≤ c ∧ c ≤ 1000000000) ∧ h.length = 8 ∧ histOk h ∧ aggTail c s mn mx f (sum8 h)
instance (c s mn mx : Int) (f : Bool) (z : Int) : Decidable (aggTail c s mn mx f z) := inferInstanceAs (Decidable (_ ∨ _))
instance (c s mn mx : Int) (h : List Int) (f : Bool) : Decidable (goodAgg c s mn mx h f) := inferInstanceAs (Decidable (_ ∧ _))
theorem aggTail_pos {c s mn mx : Int} {f : Bool} {z : Int} (e0 : c ≠ 0) : aggTail c s mn mx f z ↔ (valueOk mn ∧ valueOk mx ∧ mn ≤ mx ∧ ((f = true ∧ s = 0) ∨ (f = false ∧ z = c ∧ -1000000000 * c ≤ s ∧ s ≤ 1000000000 * c))) := by
  constructor
  · intro h
    rcases h with h | h
    · exact absurd h.1 e0
    · exact h.2
  · intro h
    exact .inr ⟨e0, h⟩
theorem szAgg_eq (c s mn mx : Int) (h : List Int) (f : Bool) (hl : h.length ≤ 9223372036854775807) : ∃ z, laws_szAgg.f c s mn mx h f 1048576 = some z ∧ (z < 0 ∨ h.length ≤ 1048576) := by
  unfold laws_szAgg.f
  rw [szIntS_eq h 1048576 (by omega) (by omega) hl]
  simp only [Option.bind_some]
  by_cases hh : (1048576 : Int) - h.length < 0
  · exact ⟨-1, by rw [if_pos hh]; rfl, .inl (by omega)⟩
  · exact ⟨1048576 - h.length, by rw [if_neg hh, if_neg hh], .inr (by omega)⟩
theorem toAgg_ev (c s mn mx : Int) (h : List Int) (f : Bool) (hl : h.length ≤ 1048576) : Ev (fun k => laws_toAgg.f k c s mn mx h f) (c, s, mn, mx, h, f) := by
  unfold laws_toAgg.f
  exact Ev.bind (toIntS_ev h (by omega)) (Ev.now _)
theorem eqAgg_same (c s mn mx : Int) (h : List Int) (f : Bool) (hl : h.length ≤ 1048576) : Ev (fun k => laws_eqAgg.f k c s mn mx h f c s mn mx h f) true := by
  unfold laws_eqAgg.f
  simp only [if_true, bne_self_eq_false, Bool.false_eq_true, if_false]
  exact Ev.bind (eqIntS_same h h (by omega) rfl) (Ev_cast (by simp only [if_true]; exact Ev.now _) rfl)
/-- What a list of whole numbers reads once it was marked from m on. -/
def imarkedFrom (m : Int) : Nat → List Int
  | 0 => []
  | n + 1 => m :: imarkedFrom (m + 1) n
theorem imarkedFrom_length (n : Nat) : ∀ m, (imarkedFrom m n).length = n := by
  induction n with
  | zero => intro m; rfl
  | succ n ih => intro m; simp [imarkedFrom, ih]
theorem markIntS_l0 (m : Int) : ∀ (d i : Nat) (l : List Int), l.length - i = d → i ≤ l.length → l.length ≤ 1152921504606846976 → 0 ≤ m → m ≤ 1152921504606846976 + i →
    Ev (fun k => laws_markIntS.l0 k l m (i : Int)) (m + d, l.take i ++ imarkedFrom m d) := by
  intro d
  induction d generalizing m with
  | zero =>
    intro i l hd hi hl h0 hm
    refine Ev_succ ?_
    simp only [laws_markIntS.l0]
    simp only [if_neg (show ¬ (i : Int) < (l.length : Int) by omega)]
    exact Ev_cast (Ev.now _) (by rw [List.take_of_length_le (by omega)]; simp [imarkedFrom])
  | succ d ih =>
    intro i l hd hi hl h0 hm
    refine Ev_succ ?_
    simp only [laws_markIntS.l0]
    simp only [if_pos (show (i : Int) < (l.length : Int) by omega), if_pos (show 0 ≤ (i : Int) by omega)]
    rw [w64 (n := m + 1) (by omega) (by omega), w64 (by omega) (by omega)]
    refine Ev_cast (ih (m + 1) (i + 1) (l.set i (m)) (by simp; omega) (by simp; omega) (by simpa using hl) (by omega) (by omega)) ?_
    refine Prod.ext (by simp; omega) ?_
    show (l.set i (m)).take (i + 1) ++ imarkedFrom (m + 1) d = l.take i ++ imarkedFrom m (d + 1)
    have : (l.set i (m)).take (i + 1) = l.take i ++ [m] := by
      apply List.ext_getElem?
      intro j
      rw [List.getElem?_take, List.getElem?_append, List.getElem?_set]
      have : (l.take i).length = i := by simp; omega
      rw [this]
      by_cases h1 : j < i
      · rw [if_pos (by omega), if_neg (by omega), if_pos h1, List.getElem?_take, if_pos h1]
      · by_cases h2 : j = i
        · subst h2; simp; omega
        · rw [if_neg (by omega), if_neg h1]; simp; omega
    rw [this]; simp [imarkedFrom]
theorem markIntS_ev (l : List Int) (m : Int) (hl : l.length ≤ 1152921504606846976) (h0 : 0 ≤ m) (hm : m ≤ 1152921504606846976) : Ev (fun k => laws_markIntS.f k l m) (m + l.length, imarkedFrom m l.length) := by
  unfold laws_markIntS.f
  exact Ev_cast (markIntS_l0 m l.length 0 l (by omega) (by omega) hl h0 (by omega)) (by simp)
theorem heldIntS_l0 : ∀ (n : Nat) (m : Int) (i : Nat) (p : List Int), p.length = i → i + n ≤ 1152921504606846976 → 0 ≤ m → m ≤ 1152921504606846976 + i →
    Ev (fun k => laws_heldIntS.l0 k (p ++ imarkedFrom m n) m (i : Int)) (m + n) := by
  intro n
  induction n with
  | zero =>
    intro m i p hp hl h0 hm
    refine Ev_succ ?_
    simp only [laws_heldIntS.l0]
    simp only [imarkedFrom, List.append_nil, if_neg (show ¬ (i : Int) < (p.length : Int) by omega)]
    exact Ev_cast (Ev.now _) (by simp)
  | succ n ih =>
    intro m i p hp hl h0 hm
    refine Ev_succ ?_
    simp only [laws_heldIntS.l0]
    have hlen : (p ++ imarkedFrom m (n + 1)).length = i + n + 1 := by rw [List.length_append, imarkedFrom_length]; omega
    have hr : rd (p ++ imarkedFrom m (n + 1)) (i : Int) = m := by
      rw [rd_lt (by omega)]; simp [imarkedFrom, hp]
    simp only [if_pos (show (i : Int) < ((p ++ imarkedFrom m (n + 1)).length : Int) by omega), if_pos (show 0 ≤ (i : Int) by omega), hr, if_true]
    rw [w64 (n := m + 1) (by omega) (by omega), w64 (by omega) (by omega)]
    have e : p ++ imarkedFrom m (n + 1) = (p ++ [m]) ++ imarkedFrom (m + 1) n := by simp [imarkedFrom]
    rw [e]
    exact Ev_cast (ih (m + 1) (i + 1) (p ++ [m]) (by simp [hp]) (by omega) (by omega) (by omega)) (by omega)
theorem heldIntS_ev (m : Int) (n : Nat) (hl : n ≤ 1152921504606846976) (h0 : 0 ≤ m) (hm : m ≤ 1152921504606846976) : Ev (fun k => laws_heldIntS.f k (imarkedFrom m n) m) (m + n) := by
  unfold laws_heldIntS.f
  exact heldIntS_l0 n m 0 [] rfl (by omega) h0 (by omega)
theorem markAgg_ev (c s mn mx : Int) (h : List Int) (f : Bool) (hl : h.length ≤ 1048576) : Ev (fun k => laws_markAgg.f k c s mn mx h f 1) (1 + (h.length : Int), imarkedFrom 1 h.length) := by
  unfold laws_markAgg.f
  exact Ev.bind (markIntS_ev h 1 (by omega) (by omega) (by omega)) (Ev.now _)
theorem heldAgg_ev (c s mn mx : Int) (n : Nat) (f : Bool) (hl : n ≤ 1048576) : Ev (fun k => laws_heldAgg.f k c s mn mx (imarkedFrom 1 n) f 1) (1 + (n : Int)) := by
  unfold laws_heldAgg.f
  refine Ev.bind (heldIntS_ev 1 n (by omega) (by omega) (by omega)) ?_
  simp only [if_neg (show ¬ (1 + (n : Int) < 0) by omega)]
  exact Ev.now _
theorem spec_GoodAgg_l0 (c s mn mx : Int) (h : List Int) (f : Bool) (h8 : h.length = 8) (R : Int → Bool) (fin : ∀ z : Int, 0 ≤ z → z ≤ 8000000000 → Ev (fun k => spec_GoodAgg.l0 k z h (h.length : Int) (8 : Int) c s mn mx h f) (R z)) :
    ∀ (d i : Nat) (z : Int), 8 - i = d → i ≤ 8 → 0 ≤ z → z ≤ 1000000000 * i → Ev (fun k => spec_GoodAgg.l0 k z h (h.length : Int) (i : Int) c s mn mx h f) (if histOk (h.drop i) then R (z + sum8 (h.drop i)) else false) := by
  intro d
  induction d with
  | zero =>
    intro i z hd hi h0 h1
    obtain rfl : i = 8 := by omega
    rw [List.drop_eq_nil_of_le (by omega), if_pos (show histOk [] from fun x hx => by cases hx)]
    simp only [sum8, Int.add_zero]
    exact fin z h0 (by omega)
  | succ d ih =>
    intro i z hd hi h0 h1
    refine Ev_succ ?_
    simp only [spec_GoodAgg.l0]
    simp only [if_pos (show (i : Int) < (h.length : Int) by omega), if_pos (show 0 ≤ (i : Int) by omega)]
    rw [rd_lt (by omega), drop_cons (l := h) (i := i) (by omega)]
    refine Ev.bind (Ev_some (l1In_eq _ _ _)) ?_
    by_cases hx : 0 ≤ h[i]'(by omega) ∧ h[i]'(by omega) ≤ 1000000000
    · rw [decide_eq_true hx]
      simp only [if_true]
      rw [w64 (n := (i : Int) + 1) (by omega) (by omega), w64 (by omega) (by omega)]
      refine Ev_cast (ih (i + 1) _ (by omega) (by omega) (by omega) (by omega)) ?_
      by_cases hr : histOk (h.drop (i + 1))
      · rw [if_pos hr, if_pos ((histOk_cons _ _).2 ⟨hx, hr⟩)]
        simp only [sum8]
        rw [Int.add_assoc]
      · rw [if_neg hr, if_neg (fun hh => hr ((histOk_cons _ _).1 hh).2)]
    · rw [decide_eq_false hx, if_neg (fun hh => hx ((histOk_cons _ _).1 hh).1)]
      simp only [Bool.false_eq_true, if_false]
      exact Ev.now _
theorem spec_GoodAgg_fin (c s mn mx : Int) (h : List Int) (f : Bool) (h8 : h.length = 8) (hc : 0 ≤ c ∧ c ≤ 1000000000) (z : Int) (h0 : 0 ≤ z) (h1 : z ≤ 8000000000) :
    Ev (fun k => spec_GoodAgg.l0 k z h (h.length : Int) (8 : Int) c s mn mx h f) (decide (aggTail c s mn mx f z)) := by
  refine Ev_succ ?_
  simp only [spec_GoodAgg.l0]
  simp only [if_neg (show ¬ (8 : Int) < (h.length : Int) by omega)]
  by_cases e0 : c = 0
  · simp only [if_pos e0]
    by_cases e1 : z = 0
    · simp only [if_pos e1]
      by_cases e2 : mn = 0
      · simp only [if_pos e2]
        by_cases e3 : mx = 0
        · simp only [if_pos e3]
          by_cases e4 : s = 0
          · simp only [if_pos e4]
            refine Ev_cast (Ev.now _) ?_
            cases f <;> simp [aggTail, e0, e1, e2, e3, e4]
          · simp only [if_neg e4]
            exact Ev_cast (Ev.now _) (by simp [aggTail, e0, e4])
        · simp only [if_neg e3]
          exact Ev_cast (Ev.now _) (by simp [aggTail, e0, e3])
      · simp only [if_neg e2]
        exact Ev_cast (Ev.now _) (by simp [aggTail, e0, e2])
    · simp only [if_neg e1]
      exact Ev_cast (Ev.now _) (by simp [aggTail, e0, e1])
  · simp only [if_neg e0]
    have bad : ∀ P : Prop, ¬ P → (aggTail c s mn mx f z → P) → Ev (fun k => spec_GoodAgg.j2 k z true c s mn mx h f) (decide (aggTail c s mn mx f z)) := by
      intro P hP hh
      refine Ev_succ ?_
      simp only [spec_GoodAgg.j2, if_true]
      exact Ev_cast (Ev.now _) (decide_eq_false (fun ht => hP (hh ht))).symm
    refine Ev.bind (Ev_some (l4Value_eq _)) ?_
    by_cases v1 : -1000000000 ≤ mn ∧ mn ≤ 1000000000
    · rw [decide_eq_true v1]
      simp only [if_true]
      refine Ev.bind (Ev_some (l4Value_eq _)) ?_
      by_cases v2 : -1000000000 ≤ mx ∧ mx ≤ 1000000000
      · rw [decide_eq_true v2]
        simp only [if_true]
        by_cases v3 : mn > mx
        · rw [decide_eq_true v3]
          exact bad (mn ≤ mx) (by omega) (fun hh => ((aggTail_pos e0).1 hh).2.2.1)
        · rw [decide_eq_false v3]
          refine Ev_succ ?_
          simp only [spec_GoodAgg.j2, Bool.false_eq_true, if_false]
          cases f with
          | true =>
            simp only [if_true]
            refine Ev_cast (Ev.now _) ?_
            rw [Bool.eq_iff_iff]
            simp only [beq_iff_eq, decide_eq_true_eq]
            rw [aggTail_pos e0]
            constructor
            · intro hs
              exact ⟨v1, v2, by omega, .inl ⟨rfl, hs⟩⟩
            · intro hh
              rcases hh.2.2.2 with hz | hz
              · exact hz.2
              · cases hz.1
          | false =>
            simp only [Bool.false_eq_true, if_false]
            by_cases e5 : z = c
            · simp only [if_pos e5]
              refine Ev.bind (Ev_some (l1In_eq _ _ _)) ?_
              rw [w64 (by omega) (by omega), w64 (by omega) (by omega)]
              refine Ev_cast (Ev.now _) ?_
              rw [decide_eq_decide, aggTail_pos e0]
              constructor
              · intro hs
                exact ⟨v1, v2, by omega, .inr ⟨rfl, e5, hs.1, hs.2⟩⟩
              · intro hh
                rcases hh.2.2.2 with hz | hz
                · cases hz.1
                · exact hz.2.2
            · simp only [if_neg e5]
              refine Ev_cast (Ev.now _) (decide_eq_false ?_).symm
              intro hh
              rcases ((aggTail_pos e0).1 hh).2.2.2 with hz | hz
              · cases hz.1
              · exact e5 hz.2.1
      · rw [decide_eq_false v2]
        simp only [Bool.false_eq_true, if_false]
        exact bad (valueOk mx) v2 (fun hh => ((aggTail_pos e0).1 hh).2.1)
    · rw [decide_eq_false v1]
      simp only [Bool.false_eq_true, if_false]
      exact bad (valueOk mn) v1 (fun hh => ((aggTail_pos e0).1 hh).1)
theorem spec_GoodAgg_ev (c s mn mx : Int) (h : List Int) (f : Bool) : Ev (fun k => spec_GoodAgg.f k c s mn mx h f) (decide (goodAgg c s mn mx h f)) := by
  unfold spec_GoodAgg.f
  have bad : ¬ goodAgg c s mn mx h f → Ev (fun k => spec_GoodAgg.j0 k true c s mn mx h f) (decide (goodAgg c s mn mx h f)) := by
    intro hn
    refine Ev_succ ?_
    simp only [spec_GoodAgg.j0, if_true]
    exact Ev_cast (Ev.now _) (decide_eq_false hn).symm
  refine Ev.bind (Ev_some (l1In_eq _ _ _)) ?_
  by_cases hc : 0 ≤ c ∧ c ≤ 1000000000
  · rw [decide_eq_true hc]
    simp only [if_true]
    by_cases h8 : h.length = 8
    · rw [show (((h.length : Int)) != 8) = false by simp [h8]]
      refine Ev_succ ?_
      simp only [spec_GoodAgg.j0, Bool.false_eq_true, if_false]
      refine Ev_cast (spec_GoodAgg_l0 c s mn mx h f h8 _ (fun z h0 h1 => spec_GoodAgg_fin c s mn mx h f h8 hc z h0 h1) 8 0 0 (by omega) (by omega) (by omega) (by omega)) ?_
      rw [List.drop_zero, Int.zero_add]
      by_cases hh : histOk h
      · rw [if_pos hh, decide_eq_decide]
        exact ⟨fun ht => ⟨hc, h8, hh, ht⟩, fun hg => hg.2.2.2⟩
      · rw [if_neg hh]
        exact (decide_eq_false (fun hg => hh hg.2.2.1)).symm
    · rw [show (((h.length : Int)) != 8) = true by simp; omega]
      exact bad (fun hg => h8 hg.2.1)
  · rw [decide_eq_false hc]
    simp only [Bool.false_eq_true, if_false]
    exact bad (fun hg => hc hg.1)
theorem impl_GoodAgg_l0 (c s mn mx : Int) (h : List Int) (f : Bool) (h8 : h.length = 8) (R : Int → Bool) (fin : ∀ z : Int, 0 ≤ z → z ≤ 8000000000 → Ev (fun k => impl_GoodAgg.l0 k z h (h.length : Int) (8 : Int) c s mn mx h f) (R z)) :
    ∀ (d i : Nat) (z : Int), 8 - i = d → i ≤ 8 → 0 ≤ z → z ≤ 1000000000 * i → Ev (fun k => impl_GoodAgg.l0 k z h (h.length : Int) (i : Int) c s mn mx h f) (if histOk (h.drop i) then R (z + sum8 (h.drop i)) else false) := by
  intro d
  induction d with
  | zero =>
    intro i z hd hi h0 h1
    obtain rfl : i = 8 := by omega
    rw [List.drop_eq_nil_of_le (by omega), if_pos (show histOk [] from fun x hx => by cases hx)]
    simp only [sum8, Int.add_zero]
    exact fin z h0 (by omega)
  | succ d ih =>
    intro i z hd hi h0 h1
    refine Ev_succ ?_
    simp only [impl_GoodAgg.l0]
    simp only [if_pos (show (i : Int) < (h.length : Int) by omega), if_pos (show 0 ≤ (i : Int) by omega)]
    rw [rd_lt (by omega), drop_cons (l := h) (i := i) (by omega)]
    refine Ev.bind (Ev_some (within_eq _ _ _)) ?_
    by_cases hx : 0 ≤ h[i]'(by omega) ∧ h[i]'(by omega) ≤ 1000000000
    · rw [decide_eq_true hx]
      simp only [if_true]
      rw [w64 (n := (i : Int) + 1) (by omega) (by omega), w64 (by omega) (by omega)]
      refine Ev_cast (ih (i + 1) _ (by omega) (by omega) (by omega) (by omega)) ?_
      by_cases hr : histOk (h.drop (i + 1))
      · rw [if_pos hr, if_pos ((histOk_cons _ _).2 ⟨hx, hr⟩)]
        simp only [sum8]
        rw [Int.add_assoc]
      · rw [if_neg hr, if_neg (fun hh => hr ((histOk_cons _ _).1 hh).2)]
    · rw [decide_eq_false hx, if_neg (fun hh => hx ((histOk_cons _ _).1 hh).1)]
      simp only [Bool.false_eq_true, if_false]
      exact Ev.now _
theorem impl_GoodAgg_j3 (c s mn mx : Int) (h : List Int) (f : Bool) (z : Int) (b : Bool) (hb : b = true ↔ ¬ ((f = true ∧ s = 0) ∨ (f = false ∧ z = c ∧ -1000000000 * c ≤ s ∧ s ≤ 1000000000 * c))) :
    Ev (fun k => impl_GoodAgg.j3 k z b c s mn mx h f) (decide (aggTail c s mn mx f z)) := by
  refine Ev_succ ?_
  simp only [impl_GoodAgg.j3]
  cases b with
  | true =>
    simp only [if_true]
    refine Ev_cast (Ev.now _) (decide_eq_false ?_).symm
    have hn := hb.1 rfl
    rintro (hh | hh)
    · exact hn (.inr ⟨hh.2.2.2.2.2, by omega, by omega, by omega⟩)
    · exact hn hh.2.2.2.2
  | false =>
    have hy : (f = true ∧ s = 0) ∨ (f = false ∧ z = c ∧ -1000000000 * c ≤ s ∧ s ≤ 1000000000 * c) := by
      by_cases hy : (f = true ∧ s = 0) ∨ (f = false ∧ z = c ∧ -1000000000 * c ≤ s ∧ s ≤ 1000000000 * c)
      · exact hy
      · exact absurd (hb.2 hy) (by simp)
    simp only [Bool.false_eq_true, if_false]
    by_cases e0 : c = 0
    · simp only [if_pos e0]
      by_cases e2 : mn = 0
      · simp only [if_pos e2]
        by_cases e3 : mx = 0
        · simp only [if_pos e3]
          by_cases e1 : z = 0
          · simp only [if_pos e1]
            refine Ev_cast (Ev.now _) ?_
            rw [Bool.eq_iff_iff, decide_eq_true_eq, Bool.not_eq_true']
            refine ⟨fun hf => .inl ⟨e0, e1, e2, e3, ?_, hf⟩, ?_⟩
            · rcases hy with hy | hy
              · rw [hf] at hy; cases hy.1
              · omega
            · rintro (hh | hh)
              · exact hh.2.2.2.2.2
              · exact absurd e0 hh.1
          · simp only [if_neg e1]
            exact Ev_cast (Ev.now _) (by simp [aggTail, e0, e1])
        · simp only [if_neg e3]
          exact Ev_cast (Ev.now _) (by simp [aggTail, e0, e3])
      · simp only [if_neg e2]
        exact Ev_cast (Ev.now _) (by simp [aggTail, e0, e2])
    · simp only [if_neg e0]
      refine Ev.bind (Ev_some (isValue_eq _)) ?_
      by_cases v1 : -1000000000 ≤ mn ∧ mn ≤ 1000000000
      · rw [decide_eq_true v1]
        simp only [if_true]
        refine Ev.bind (Ev_some (isValue_eq _)) ?_
        by_cases v2 : -1000000000 ≤ mx ∧ mx ≤ 1000000000
        · rw [decide_eq_true v2]
          simp only [if_true]
          refine Ev_cast (Ev.now _) ?_
          rw [decide_eq_decide]
          rw [aggTail_pos e0]
          exact ⟨fun hm => ⟨v1, v2, hm, hy⟩, fun hh => hh.2.2.1⟩
        · rw [decide_eq_false v2]
          simp only [Bool.false_eq_true, if_false]
          exact Ev_cast (Ev.now _) (decide_eq_false (fun hh => v2 ((aggTail_pos e0).1 hh).2.1)).symm
      · rw [decide_eq_false v1]
        simp only [Bool.false_eq_true, if_false]
        exact Ev_cast (Ev.now _) (decide_eq_false (fun hh => v1 ((aggTail_pos e0).1 hh).1)).symm
theorem impl_GoodAgg_j2 (c s mn mx : Int) (h : List Int) (f : Bool) (hc : 0 ≤ c ∧ c ≤ 1000000000) (z : Int) (b : Bool) (hb : b = true ↔ (f = true ∧ s ≠ 0)) :
    Ev (fun k => impl_GoodAgg.j2 k z b c s mn mx h f) (decide (aggTail c s mn mx f z)) := by
  refine Ev_succ ?_
  simp only [impl_GoodAgg.j2]
  cases b with
  | true =>
    simp only [if_true]
    obtain ⟨hf, hs⟩ := hb.1 rfl
    refine Ev_cast (Ev.now _) (decide_eq_false ?_).symm
    rintro (hh | hh)
    · exact hs hh.2.2.2.2.1
    · rcases hh.2.2.2.2 with hz | hz
      · exact hs hz.2
      · rw [hf] at hz; cases hz.1
  | false =>
    have hy : ¬ (f = true ∧ s ≠ 0) := fun hh => by have := hb.2 hh; cases this
    simp only [Bool.false_eq_true, if_false]
    cases f with
    | true =>
      simp only [if_true]
      refine impl_GoodAgg_j3 c s mn mx h true z false ⟨fun hh => (by cases hh), fun hh => ?_⟩
      exact absurd (Or.inl ⟨rfl, Decidable.byContradiction fun hs => hy ⟨rfl, hs⟩⟩) hh
    | false =>
      simp only [Bool.false_eq_true, if_false]
      by_cases e5 : z = c
      · simp only [if_pos e5]
        refine Ev.bind (Ev_some (within_eq _ _ _)) ?_
        rw [w64 (by omega) (by omega), w64 (by omega) (by omega)]
        refine impl_GoodAgg_j3 c s mn mx h false z _ ?_
        rw [Bool.not_eq_true', decide_eq_false_iff_not]
        simp [e5]
      · simp only [if_neg e5]
        refine impl_GoodAgg_j3 c s mn mx h false z true ?_
        simp [e5]
theorem impl_GoodAgg_fin (c s mn mx : Int) (h : List Int) (f : Bool) (h8 : h.length = 8) (hc : 0 ≤ c ∧ c ≤ 1000000000) (z : Int) (h0 : 0 ≤ z) (h1 : z ≤ 8000000000) :
    Ev (fun k => impl_GoodAgg.l0 k z h (h.length : Int) (8 : Int) c s mn mx h f) (decide (aggTail c s mn mx f z)) := by
  refine Ev_succ ?_
  simp only [impl_GoodAgg.l0]
  simp only [if_neg (show ¬ (8 : Int) < (h.length : Int) by omega)]
  cases f with
  | true =>
    simp only [if_true]
    exact impl_GoodAgg_j2 c s mn mx h true hc z _ (by simp)
  | false =>
    simp only [Bool.false_eq_true, if_false]
    exact impl_GoodAgg_j2 c s mn mx h false hc z _ (by simp)
theorem impl_GoodAgg_ev (c s mn mx : Int) (h : List Int) (f : Bool) : Ev (fun k => impl_GoodAgg.f k c s mn mx h f) (decide (goodAgg c s mn mx h f)) := by
  unfold impl_GoodAgg.f
  have bad : ¬ goodAgg c s mn mx h f → Ev (fun k => impl_GoodAgg.j0 k true c s mn mx h f) (decide (goodAgg c s mn mx h f)) := by
    intro hn
    refine Ev_succ ?_
    simp only [impl_GoodAgg.j0, if_true]
    exact Ev_cast (Ev.now _) (decide_eq_false hn).symm
  refine Ev.bind (Ev_some (within_eq _ _ _)) ?_
  by_cases hc : 0 ≤ c ∧ c ≤ 1000000000
  · rw [decide_eq_true hc]
    simp only [if_true]
    by_cases h8 : h.length = 8
    · rw [show (((h.length : Int)) != 8) = false by simp [h8]]
      refine Ev_succ ?_
      simp only [impl_GoodAgg.j0, Bool.false_eq_true, if_false]
      refine Ev_cast (impl_GoodAgg_l0 c s mn mx h f h8 _ (fun z h0 h1 => impl_GoodAgg_fin c s mn mx h f h8 hc z h0 h1) 8 0 0 (by omega) (by omega) (by omega) (by omega)) ?_
      rw [List.drop_zero, Int.zero_add]
      by_cases hh : histOk h
      · rw [if_pos hh, decide_eq_decide]
        exact ⟨fun ht => ⟨hc, h8, hh, ht⟩, fun hg => hg.2.2.2⟩
      · rw [if_neg hh]
        exact (decide_eq_false (fun hg => hh hg.2.2.1)).symm
    · rw [show (((h.length : Int)) != 8) = true by simp; omega]
      exact bad (fun hg => h8 hg.2.1)
  · rw [decide_eq_false hc]
    simp only [Bool.false_eq_true, if_false]
    exact bad (fun hg => hc hg.1)
/-! ### two aggs in one -/
theorem szAgg_from (c s mn mx : Int) (h : List Int) (f : Bool) (a : Int) (h0 : 0 ≤ a) (h1 : a ≤ 1048576) (hl : h.length ≤ 9223372036854775807) : ∃ z, laws_szAgg.f c s mn mx h f a = some z ∧ (z < 0 ∨ (0 ≤ z ∧ z ≤ a ∧ h.length ≤ 1048576)) := by
  unfold laws_szAgg.f
  rw [szIntS_eq h a h0 h1 hl]
  simp only [Option.bind_some]
  by_cases hh : a - (h.length : Int) < 0
  · exact ⟨-1, by rw [if_pos hh]; rfl, .inl (by omega)⟩
  · exact ⟨a - h.length, by rw [if_neg hh, if_neg hh], .inr (by omega)⟩
theorem markAgg_from (c s mn mx : Int) (h : List Int) (f : Bool) (m : Int) (h0 : 0 ≤ m) (h1 : m ≤ 1152921504606846976) (hl : h.length ≤ 1048576) : Ev (fun k => laws_markAgg.f k c s mn mx h f m) (m + (h.length : Int), imarkedFrom m h.length) := by
  unfold laws_markAgg.f
  exact Ev.bind (markIntS_ev h m (by omega) h0 h1) (Ev.now _)
theorem cap_eq (n : Int) (f : Bool) : spec_l4Join.cap n f = impl_joined.cap n f := rfl
theorem h_eq : ∀ (a b : List Int) (f : Bool), spec_l4Join.h a b f = impl_joined.h a b f
  | [], b, f => by cases b <;> rfl
  | a :: p, [], f => rfl
  | a :: p, b :: q, f => by simp only [spec_l4Join.h, impl_joined.h, cap_eq, h_eq p q]
theorem ok_eq (a0 a1 : Int) (l : List Int) : spec_l4Join.ok a0 a1 l = impl_joined.ok a0 a1 l := rfl
theorem sum8_nonneg : ∀ (l : List Int), histOk l → 0 ≤ sum8 l
  | [], _ => by simp [sum8]
  | x :: t, h => by
    have h1 := (histOk_cons x t).1 h
    have := sum8_nonneg t h1.2
    simp only [sum8]
    omega
theorem sum8_zero : ∀ (l : List Int), histOk l → sum8 l = 0 → ∀ x ∈ l, x = 0
  | [], _, _ => fun x hx => by cases hx
  | y :: t, h, hz => by
    have h1 := (histOk_cons y t).1 h
    have := sum8_nonneg t h1.2
    simp only [sum8] at hz
    intro x hx
    rcases List.mem_cons.1 hx with rfl | hx
    · omega
    · exact sum8_zero t h1.2 (by omega) x hx
theorem h_zeros : ∀ (a b : List Int) (f : Bool), a.length = b.length → (∀ x ∈ a, x = 0) → (∀ x ∈ b, x ≤ 1000000000) → impl_joined.h a b f = (b, f)
  | [], [], f, _, _, _ => rfl
  | a :: p, b :: q, f, hl, ha, hb => by
    have h1 := ha a (List.mem_cons_self ..)
    have h2 := hb b (List.mem_cons_self ..)
    have hc : impl_joined.cap (a + b) f = (b, f) := by unfold impl_joined.cap; rw [if_neg (by omega), show a + b = b by omega]
    simp only [impl_joined.h, hc]
    rw [h_zeros p q f (by simpa using hl) (fun x hx => ha x (List.mem_cons_of_mem _ hx)) (fun x hx => hb x (List.mem_cons_of_mem _ hx))]
theorem h_zeros2 : ∀ (a b : List Int) (f : Bool), a.length = b.length → (∀ x ∈ b, x = 0) → (∀ x ∈ a, x ≤ 1000000000) → impl_joined.h a b f = (a, f)
  | [], [], f, _, _, _ => rfl
  | a :: p, b :: q, f, hl, hb, ha => by
    have h1 := hb b (List.mem_cons_self ..)
    have h2 := ha a (List.mem_cons_self ..)
    have hc : impl_joined.cap (a + b) f = (a, f) := by unfold impl_joined.cap; rw [if_neg (by omega), show a + b = a by omega]
    simp only [impl_joined.h, hc]
    rw [h_zeros2 p q f (by simpa using hl) (fun x hx => hb x (List.mem_cons_of_mem _ hx)) (fun x hx => ha x (List.mem_cons_of_mem _ hx))]
theorem good_ok {c s mn mx : Int} {h : List Int} {f : Bool} (hg : goodAgg c s mn mx h f) : impl_joined.ok c s h = true := by
  obtain ⟨hc, h8, hh, ht⟩ := hg
  have hs : -1000000000000000000 ≤ s ∧ s ≤ 1000000000000000000 := by
    rcases ht with ht | ht
    · omega
    · rcases ht.2.2.2.2 with hz | hz <;> omega
  unfold impl_joined.ok
  simp only [Bool.and_eq_true, decide_eq_true_eq]
  exact ⟨hc, hs, h8, List.all_eq_true.2 (fun x hx => by simpa using hh x hx)⟩
theorem cap_small (n : Int) (f : Bool) (h : n ≤ 1000000000) : impl_joined.cap n f = (n, f) := by unfold impl_joined.cap; rw [if_neg (by omega)]
/-- what both answer -/
def joinF (c1 s1 n1 x1 : Int) (h1 : List Int) (f1 : Bool) (c2 s2 n2 x2 : Int) (h2 : List Int) (f2 : Bool) : Int × Int × Int × Int × List Int × Bool :=
  ((impl_joined.cap (c1 + c2) (f1 || f2)).1,
      (if (impl_joined.h h1 h2 (impl_joined.cap (c1 + c2) (f1 || f2)).2).2 = true then 0 else s1 + s2),
      (if c1 = 0 then n2 else if c2 = 0 then n1 else mn n1 n2),
      (if c1 = 0 then x2 else if c2 = 0 then x1 else mx x1 x2),
      (impl_joined.h h1 h2 (impl_joined.cap (c1 + c2) (f1 || f2)).2).1,
      (impl_joined.h h1 h2 (impl_joined.cap (c1 + c2) (f1 || f2)).2).2)
theorem joined_eq {c1 s1 n1 x1 : Int} {h1 : List Int} {f1 : Bool} {c2 s2 n2 x2 : Int} {h2 : List Int} {f2 : Bool} (g1 : goodAgg c1 s1 n1 x1 h1 f1) (g2 : goodAgg c2 s2 n2 x2 h2 f2) : impl_joined.f c1 s1 n1 x1 h1 f1 c2 s2 n2 x2 h2 f2 = some (joinF c1 s1 n1 x1 h1 f1 c2 s2 n2 x2 h2 f2) := by
  unfold impl_joined.f
  rw [good_ok g1, good_ok g2]
  rfl
theorem good_full {c s mn mx : Int} {h : List Int} {f : Bool} (hg : goodAgg c s mn mx h f) : (if f = true then 0 else s) = s := by
  obtain ⟨hc, h8, hh, ht⟩ := hg
  cases f with
  | false => simp
  | true =>
    rcases ht with ht | ht
    · simp [ht.2.2.2.2.1]
    · rcases ht.2.2.2.2 with hz | hz
      · simp [hz.2]
      · cases hz.1
theorem good_zero {c s mn mx : Int} {h : List Int} {f : Bool} (hg : goodAgg c s mn mx h f) (h0 : c = 0) : s = 0 ∧ f = false ∧ ∀ x ∈ h, x = 0 := by
  obtain ⟨hc, h8, hh, ht⟩ := hg
  rcases ht with ht | ht
  · exact ⟨ht.2.2.2.2.1, ht.2.2.2.2.2, sum8_zero h hh ht.2.1⟩
  · exact absurd h0 ht.1
theorem l4Join_eq {c1 s1 n1 x1 : Int} {h1 : List Int} {f1 : Bool} {c2 s2 n2 x2 : Int} {h2 : List Int} {f2 : Bool} (g1 : goodAgg c1 s1 n1 x1 h1 f1) (g2 : goodAgg c2 s2 n2 x2 h2 f2) : spec_l4Join.f c1 s1 n1 x1 h1 f1 c2 s2 n2 x2 h2 f2 = some (joinF c1 s1 n1 x1 h1 f1 c2 s2 n2 x2 h2 f2) := by
  have hl : h1.length = h2.length := g1.2.1.trans g2.2.1.symm
  unfold spec_l4Join.f joinF
  simp only [ok_eq, cap_eq, h_eq]
  rw [good_ok g1, good_ok g2]
  simp only [Bool.and_self, if_true]
  by_cases z1 : c1 = 0
  · obtain ⟨e1, e2, e3⟩ := good_zero g1 z1
    subst z1 e1 e2
    rw [if_pos rfl, if_pos rfl, if_pos rfl, Int.zero_add, cap_small c2 _ g2.1.2]
    simp only [Bool.false_or]
    rw [h_zeros h1 h2 f2 hl e3 (fun x hx => (g2.2.2.1 x hx).2)]
    simp only [Int.zero_add, good_full g2]
  · rw [if_neg z1, if_neg z1, if_neg z1]
    by_cases z2 : c2 = 0
    · obtain ⟨e1, e2, e3⟩ := good_zero g2 z2
      subst z2 e1 e2
      rw [if_pos rfl, if_pos rfl, if_pos rfl, Int.add_zero, cap_small c1 _ g1.1.2]
      simp only [Bool.or_false]
      rw [h_zeros2 h1 h2 f1 hl e3 (fun x hx => (g1.2.2.1 x hx).2)]
      simp only [Int.add_zero, good_full g1]
    · rw [if_neg z2, if_neg z2, if_neg z2]
def joinR (c1 s1 n1 x1 : Int) (h1 : List Int) (f1 : Bool) (c2 s2 n2 x2 : Int) (h2 : List Int) (f2 : Bool) : Int × Int × Int × Int × List Int × Bool × Bool :=
  if goodAgg c1 s1 n1 x1 h1 f1 then (if goodAgg c2 s2 n2 x2 h2 f2 then ((joinF c1 s1 n1 x1 h1 f1 c2 s2 n2 x2 h2 f2).1, (joinF c1 s1 n1 x1 h1 f1 c2 s2 n2 x2 h2 f2).2.1, (joinF c1 s1 n1 x1 h1 f1 c2 s2 n2 x2 h2 f2).2.2.1, (joinF c1 s1 n1 x1 h1 f1 c2 s2 n2 x2 h2 f2).2.2.2.1, (joinF c1 s1 n1 x1 h1 f1 c2 s2 n2 x2 h2 f2).2.2.2.2.1, (joinF c1 s1 n1 x1 h1 f1 c2 s2 n2 x2 h2 f2).2.2.2.2.2, true) else (0, 0, 0, 0, [], false, false)) else (0, 0, 0, 0, [], false, false)
theorem joinR_len (c1 s1 n1 x1 : Int) (h1 : List Int) (f1 : Bool) (c2 s2 n2 x2 : Int) (h2 : List Int) (f2 : Bool) : (joinR c1 s1 n1 x1 h1 f1 c2 s2 n2 x2 h2 f2).2.2.2.2.1.length ≤ 8 := by
  unfold joinR
  by_cases g1 : goodAgg c1 s1 n1 x1 h1 f1
  · rw [if_pos g1]
    by_cases g2 : goodAgg c2 s2 n2 x2 h2 f2
    · rw [if_pos g2]
      show (impl_joined.h h1 h2 _).1.length ≤ 8
      rw [impl_joined.h_len h1 h2 _ (g1.2.1.trans g2.2.1.symm)]
      exact Nat.le_of_eq g1.2.1
    · rw [if_neg g2]; simp
  · rw [if_neg g1]; simp
theorem spec_join_ev (c1 s1 n1 x1 : Int) (h1 : List Int) (f1 : Bool) (c2 s2 n2 x2 : Int) (h2 : List Int) (f2 : Bool) : Ev (fun k => spec_JoinAggs.f k c1 s1 n1 x1 h1 f1 c2 s2 n2 x2 h2 f2) (joinR c1 s1 n1 x1 h1 f1 c2 s2 n2 x2 h2 f2) := by
  unfold spec_JoinAggs.f joinR
  refine Ev.bind (spec_GoodAgg_ev c1 s1 n1 x1 h1 f1) ?_
  by_cases g1 : goodAgg c1 s1 n1 x1 h1 f1
  · rw [decide_eq_true g1, if_pos g1]
    simp only [if_true]
    refine Ev.bind (spec_GoodAgg_ev c2 s2 n2 x2 h2 f2) ?_
    by_cases g2 : goodAgg c2 s2 n2 x2 h2 f2
    · rw [decide_eq_true g2, if_pos g2]
      simp only [if_true]
      exact Ev.bind (Ev_some (l4Join_eq g1 g2)) (Ev.now _)
    · rw [decide_eq_false g2, if_neg g2]
      simp only [Bool.false_eq_true, if_false]
      exact Ev.now _
  · rw [decide_eq_false g1, if_neg g1]
    simp only [Bool.false_eq_true, if_false]
    exact Ev.now _
theorem impl_join_ev (c1 s1 n1 x1 : Int) (h1 : List Int) (f1 : Bool) (c2 s2 n2 x2 : Int) (h2 : List Int) (f2 : Bool) : Ev (fun k => impl_JoinAggs.f k c1 s1 n1 x1 h1 f1 c2 s2 n2 x2 h2 f2) (joinR c1 s1 n1 x1 h1 f1 c2 s2 n2 x2 h2 f2) := by
  unfold impl_JoinAggs.f joinR
  refine Ev.bind (impl_GoodAgg_ev c1 s1 n1 x1 h1 f1) ?_
  by_cases g1 : goodAgg c1 s1 n1 x1 h1 f1
  · rw [decide_eq_true g1, if_pos g1]
    simp only [if_true]
    refine Ev.bind (impl_GoodAgg_ev c2 s2 n2 x2 h2 f2) ?_
    by_cases g2 : goodAgg c2 s2 n2 x2 h2 f2
    · rw [decide_eq_true g2, if_pos g2]
      simp only [if_true]
      exact Ev.bind (Ev_some (joined_eq g1 g2)) (Ev.now _)
    · rw [decide_eq_false g2, if_neg g2]
      simp only [Bool.false_eq_true, if_false]
      exact Ev.now _
  · rw [decide_eq_false g1, if_neg g1]
    simp only [Bool.false_eq_true, if_false]
    exact Ev.now _
theorem FnExactJoinAggs : laws_FnExactJoinAggs.Pure := by
  intro c1 s1 n1 x1 h1 f1 c2 s2 n2 x2 h2 f2 _ _ _ _ hl1 _ _ _ _ hl2
  have hm : maxLen ≤ 9223372036854775807 := by decide
  refine Ev.rounds ?_
  unfold laws_FnExactJoinAggs.f
  obtain ⟨z1, hz1, hz2⟩ := szAgg_from c1 s1 n1 x1 h1 f1 1048576 (by omega) (by omega) (by omega)
  refine Ev.bind (Ev_some hz1) ?_
  by_cases hh : z1 < 0
  · simp only [if_pos hh]; exact Ev.now _
  simp only [if_neg hh]
  obtain ⟨g0, g1, l1⟩ := hz2.resolve_left hh
  obtain ⟨z3, hz3, hz4⟩ := szAgg_from c2 s2 n2 x2 h2 f2 z1 g0 g1 (by omega)
  refine Ev.bind (Ev_some hz3) ?_
  by_cases hh3 : z3 < 0
  · simp only [if_pos hh3]; exact Ev.now _
  simp only [if_neg hh3]
  obtain ⟨_, _, l2⟩ := hz4.resolve_left hh3
  have t1 := toAgg_ev c1 s1 n1 x1 h1 f1 l1
  have t2 := toAgg_ev c2 s2 n2 x2 h2 f2 l2
  have e1 := spec_join_ev c1 s1 n1 x1 h1 f1 c2 s2 n2 x2 h2 f2
  have e2 := impl_join_ev c1 s1 n1 x1 h1 f1 c2 s2 n2 x2 h2 f2
  have hr := joinR_len c1 s1 n1 x1 h1 f1 c2 s2 n2 x2 h2 f2
  generalize joinR c1 s1 n1 x1 h1 f1 c2 s2 n2 x2 h2 f2 = r at e1 e2 hr
  refine Ev.bind t1 (Ev.bind t2 (Ev.bind e1 (Ev.bind t1 (Ev.bind t2 (Ev.bind e2 ?_)))))
  refine Ev.bind (eqAgg_same _ _ _ _ _ _ (by omega)) ?_
  simp only [if_true, bne_self_eq_false]
  refine Ev_succ ?_
  simp only [laws_FnExactJoinAggs.j0, Bool.false_eq_true, if_false]
  refine Ev.bind t1 (Ev.bind (eqAgg_same _ _ _ _ _ _ l1) ?_)
  simp only [if_true]
  refine Ev.bind t2 (Ev.bind (eqAgg_same _ _ _ _ _ _ l2) ?_)
  simp only [if_true]
  refine Ev.bind (markAgg_from c1 s1 n1 x1 h1 f1 1 (by omega) (by omega) l1) ?_
  refine Ev.bind (markAgg_from c2 s2 n2 x2 h2 f2 (1 + h1.length) (by omega) (by omega) l2) ?_
  simp only [if_neg (show ¬ (1 + (h1.length : Int) + (h2.length : Int) < 0) by omega)]
  refine Ev.bind (eqAgg_same _ _ _ _ _ _ (by omega)) ?_
  simp only [if_true, bne_self_eq_false]
  refine Ev_succ ?_
  simp only [laws_FnExactJoinAggs.j1, Bool.false_eq_true, if_false]
  refine Ev.bind (markAgg_ev _ _ _ _ _ _ (by omega)) ?_
  refine Ev.bind (heldAgg_ev _ _ _ _ _ _ (by omega)) ?_
  simp only [if_neg (show ¬ (1 + (r.2.2.2.2.1.length : Int) < 0) by omega), if_true]
  refine Ev.bind t1 (Ev.bind t2 (Ev.bind e2 ?_))
  refine Ev.bind (eqAgg_same _ _ _ _ _ _ (by omega)) ?_
  simp only [if_true, bne_self_eq_false]
  refine Ev_succ ?_
  simp only [laws_FnExactJoinAggs.j2, Bool.false_eq_true, if_false]
  refine Ev.bind (heldAgg_ev _ _ _ _ _ _ (by omega)) ?_
  simp only [if_neg (show ¬ (1 + (r.2.2.2.2.1.length : Int) < 0) by omega), if_true]
  exact Ev.now _
end Go.Proofs.Ytncnfkcnimfbmaa.Pure
