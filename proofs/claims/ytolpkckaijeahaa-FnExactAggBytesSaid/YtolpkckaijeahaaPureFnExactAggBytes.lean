/- The law FnExactAggBytes answers true, for all aggs. -/
import Derived.Test.YtolpkckaijeahaaPFnExactAggBytesx7
import Derived.Test.YtolpkckaijeahaaPFnExactAggBytesx7
set_option linter.unusedVariables false
set_option linter.unusedSimpArgs false
namespace Go.Proofs.Ytolpkckaijeahaa.Pure
open Go.RowKit Go.Proofs.Ytolpkckaijeahaa.PFnExactAggBytes Go.Proofs.YtolpkckaijeahaaW Go.Proofs.YtolpkckaijeahaaW.PrintWords Go.Proofs.YtolpkckaijeahaaW.PrintLast Go.Proofs.YtolpkckaijeahaaW.PrintMore
/-! ### base: rounds, numbers -/
theorem Ev_succ {α : Type} {g : Nat → Option α} {r : α} (h : Ev (fun k => g (k + 1)) r) : Ev g r := Ev.step (fun _ => rfl) h
theorem Ev_some {α : Type} {o : Option α} {r : α} (h : o = some r) : Ev (fun _ => o) r := ⟨0, fun _ _ => h⟩
theorem Ev_cast {α : Type} {g : Nat → Option α} {r q : α} (h : Ev g r) (e : r = q) : Ev g q := e ▸ h
theorem w64 {n : Int} (h : -9223372036854775808 ≤ n) (h' : n ≤ 9223372036854775807) : wrap64 n = n := by unfold wrap64; omega
theorem wf_i64 {n : Int} (h : (Lit.int .i64 n).wf = true) : -9223372036854775808 ≤ n ∧ n ≤ 9223372036854775807 := by
  simp only [Lit.wf, IntKind.min, IntKind.max, IntKind.signed, IntKind.bits, Bool.and_eq_true, decide_eq_true_eq, if_true] at h
  omega
theorem wf_u64 {n : Int} (h : (Lit.int .u64 n).wf = true) : 0 ≤ n ∧ n ≤ 18446744073709551615 := by
  simp only [Lit.wf, IntKind.min, IntKind.max, IntKind.signed, IntKind.bits, Bool.and_eq_true, decide_eq_true_eq, if_true] at h
  simp at h
  omega
theorem wf_u8 {n : Int} (h : (Lit.int .u8 n).wf = true) : 0 ≤ n ∧ n ≤ 255 := by
  simp only [Lit.wf, IntKind.min, IntKind.max, IntKind.signed, IntKind.bits, Bool.and_eq_true, decide_eq_true_eq, if_true] at h
  simp at h
  omega
theorem wrap_u64 (n : Int) : IntKind.u64.wrap n = n % 18446744073709551616 := by simp [IntKind.wrap, IntKind.bits, IntKind.signed]
theorem wrap_u32 (n : Int) : IntKind.u32.wrap n = n % 4294967296 := by simp [IntKind.wrap, IntKind.bits, IntKind.signed]
/-- A list of bytes. -/
def Bytes (l : List Int) : Prop := ∀ x ∈ l, 0 ≤ x ∧ x ≤ 255
theorem Bytes.wf {l : List Int} (h : ∀ x ∈ l, (Lit.int .u8 x).wf = true) : Bytes l := fun x hx => wf_u8 (h x hx)
theorem Bytes.nil : Bytes [] := fun x hx => by cases hx
theorem Bytes.app {a b : List Int} (h : Bytes a) (k : Bytes b) : Bytes (a ++ b) := fun x hx => by
  rcases List.mem_append.1 hx with h' | h'
  · exact h x h'
  · exact k x h'
theorem Bytes.one {x : Int} (h : 0 ≤ x) (h' : x ≤ 255) : Bytes [x] := fun y hy => (List.mem_singleton.1 hy) ▸ ⟨h, h'⟩
theorem Bytes.sub {a b : List Int} (h : Bytes a) (k : ∀ x ∈ b, x ∈ a) : Bytes b := fun x hx => h x (k x hx)
theorem Bytes.take {a : List Int} (h : Bytes a) (n : Nat) : Bytes (a.take n) := h.sub fun _ hx => List.mem_of_mem_take hx
theorem Bytes.drop {a : List Int} (h : Bytes a) (n : Nat) : Bytes (a.drop n) := h.sub fun _ hx => List.mem_of_mem_drop hx
theorem rd_lt {l : List Int} {i : Nat} (h : i < l.length) : rd l (i : Int) = l[i] := by simp [rd, h]
theorem Bytes.rd {l : List Int} (h : Bytes l) (i : Int) : 0 ≤ rd l i ∧ rd l i ≤ 255 := by
  unfold PrintWords.rd
  by_cases hi : i.toNat < l.length
  · rw [List.getD_eq_getElem?_getD, List.getElem?_eq_getElem hi]; exact h _ (List.getElem_mem hi)
  · rw [List.getD_eq_getElem?_getD, List.getElem?_eq_none (by omega)]; simp
theorem drop_cons {α : Type} {l : List α} {i : Nat} (h : i < l.length) : l.drop i = l[i] :: l.drop (i + 1) := List.drop_eq_getElem_cons h
theorem within_eq (a b c : Int) : impl_within.f a b c = some (decide (b ≤ a ∧ a ≤ c)) := by
  unfold impl_within.f
  by_cases h : a ≥ b
  · rw [if_pos h]; simp; intro; omega
  · rw [if_neg h]; simp; intro; omega
theorem l1In_eq (a b c : Int) : spec_l1In.f a b c = some (decide (b ≤ a ∧ a ≤ c)) := by
  unfold spec_l1In.f
  by_cases h : a ≥ b
  · rw [if_pos h]; simp; intro; omega
  · rw [if_neg h]; simp; intro; omega
theorem l4Value_eq (v : Int) : spec_l4Value.f v = some (decide (-1000000000 ≤ v ∧ v ≤ 1000000000)) := by
  unfold spec_l4Value.f
  rw [l1In_eq]; rfl
theorem isValue_eq (v : Int) : impl_isValue.f v = some (decide (-1000000000 ≤ v ∧ v ≤ 1000000000)) := by
  unfold impl_isValue.f
  rw [within_eq]; rfl
/-! ### the laws' own words on bytes -/
theorem eqIntS_l0 (a b : List Int) (hl : a.length = b.length) (hb : a.length ≤ 4611686018427387904) :
    ∀ (d i : Nat), a.length - i = d → i ≤ a.length → Ev (fun k => laws_eqIntS.l0 k a b (i : Int)) (decide (a.drop i = b.drop i)) := by
  intro d
  induction d with
  | zero =>
    intro i hd hi
    refine Ev_succ ?_
    simp only [laws_eqIntS.l0]
    simp only [if_neg (show ¬ (i : Int) < (a.length : Int) by omega)]
    exact Ev_cast (Ev.now _) (by rw [List.drop_eq_nil_of_le (by omega), List.drop_eq_nil_of_le (by omega)]; simp)
  | succ d ih =>
    intro i hd hi
    refine Ev_succ ?_
    simp only [laws_eqIntS.l0]
    simp only [if_pos (show (i : Int) < (a.length : Int) by omega), if_pos (show 0 ≤ (i : Int) by omega), if_pos (show (i : Int) < (b.length : Int) by omega)]
    rw [rd_lt (by omega), rd_lt (by omega), w64 (by omega) (by omega), drop_cons (l := a) (by omega), drop_cons (l := b) (i := i) (by omega)]
    by_cases e : a[i]'(by omega) = b[i]'(by omega)
    · simp only [if_pos e]
      exact Ev_cast (ih (i + 1) (by omega) (by omega)) (decide_eq_decide.2 (by rw [List.cons.injEq]; exact ⟨fun h => ⟨e, h⟩, fun h => h.2⟩))
    · simp only [if_neg e]
      exact Ev_cast (Ev.now _) (Eq.symm (decide_eq_false (by rw [List.cons.injEq]; exact fun h => e h.1)))
theorem eqIntS_ev (a b : List Int) (ha : a.length ≤ 4611686018427387904) : Ev (fun k => laws_eqIntS.f k a b) (decide (a = b)) := by
  unfold laws_eqIntS.f
  by_cases h : a.length = b.length
  · simp only [if_pos (show (a.length : Int) = (b.length : Int) by omega)]
    exact eqIntS_l0 a b h ha a.length 0 (by omega) (by omega)
  · simp only [if_neg (show ¬ (a.length : Int) = (b.length : Int) by omega)]
    exact Ev_cast (Ev.now _) (by simp; intro e; exact h (by rw [e]))
theorem eqIntS_same (a b : List Int) (ha : a.length ≤ 4611686018427387904) (e : a = b) : Ev (fun k => laws_eqIntS.f k a b) true := Ev_cast (eqIntS_ev a b ha) (by simp [e])
theorem toIntS_l0 (l : List Int) : ∀ (d i : Nat) (o : List Int), l.length - i = d → i ≤ l.length → l.length ≤ 1152921504606846976 → o.length = l.length → o.take i = l.take i →
    Ev (fun k => laws_toIntS.l0 k l o (i : Int)) l := by
  intro d
  induction d with
  | zero =>
    intro i o hd hi hl ho ht
    refine Ev_succ ?_
    simp only [laws_toIntS.l0]
    simp only [if_neg (show ¬ (i : Int) < (l.length : Int) by omega)]
    exact Ev_cast (Ev.now _) (by rw [List.take_of_length_le (by omega), List.take_of_length_le (by omega)] at ht; exact ht)
  | succ d ih =>
    intro i o hd hi hl ho ht
    refine Ev_succ ?_
    simp only [laws_toIntS.l0]
    simp only [if_pos (show (i : Int) < (l.length : Int) by omega), if_pos (show 0 ≤ (i : Int) by omega), if_pos (show (i : Int) < (o.length : Int) by omega)]
    rw [rd_lt (by omega), w64 (by omega) (by omega)]
    refine ih (i + 1) _ (by omega) (by omega) hl (by simpa using ho) ?_
    apply List.ext_getElem?
    intro j
    rw [List.getElem?_take, List.getElem?_take]
    by_cases h1 : j < i
    · have := congrArg (fun x => x[j]?) ht
      simp only [List.getElem?_take, if_pos h1] at this
      rw [if_pos (by omega), if_pos (by omega), List.getElem?_set]
      simp only [Int.toNat_natCast]
      rw [if_neg (by omega), this]
    · by_cases h2 : j = i
      · subst h2
        rw [if_pos (by omega), if_pos (by omega)]
        simp [show j < l.length by omega, show j < o.length by omega]
      · rw [if_neg (by omega), if_neg (by omega)]
theorem toIntS_ev (l : List Int) (hl : l.length ≤ 35184372088832) : Ev (fun k => laws_toIntS.f k l) l := by
  unfold laws_toIntS.f
  simp only [if_pos (show 0 ≤ (l.length : Int) by omega), Int.toNat_natCast, if_pos hl]
  exact toIntS_l0 l l.length 0 _ (by omega) (by omega) (by omega) (by simp) (by simp)
theorem szIntS_eq (l : List Int) (a : Int) (h0 : 0 ≤ a) (h1 : a ≤ 1048576) (hl : l.length ≤ 9223372036854775807) : laws_szIntS.f l a = some (if a - l.length < 0 then -1 else a - l.length) := by
  unfold laws_szIntS.f
  rw [w64 (by omega) (by omega)]
  by_cases h : a - (l.length : Int) < 0
  · simp only [if_pos h]
  · simp only [if_neg h]
/-! ### sums -/
def sum8 : List Int → Int
  | [] => 0
  | x :: t => x + sum8 t
def histOk (h : List Int) : Prop := ∀ x ∈ h, 0 ≤ x ∧ x ≤ 1000000000
instance (h : List Int) : Decidable (histOk h) := inferInstanceAs (Decidable (∀ x ∈ h, 0 ≤ x ∧ x ≤ 1000000000))
theorem histOk_cons (a : Int) (t : List Int) : histOk (a :: t) ↔ (0 ≤ a ∧ a ≤ 1000000000) ∧ histOk t := by
  unfold histOk; simp
def valueOk (v : Int) : Prop := -1000000000 ≤ v ∧ v ≤ 1000000000
instance (v : Int) : Decidable (valueOk v) := inferInstanceAs (Decidable (_ ∧ _))
/-- What is asked behind the histogram; z: all of it together. -/
def aggTail (c s mn mx : Int) (f : Bool) (z : Int) : Prop :=
  (c = 0 ∧ z = 0 ∧ mn = 0 ∧ mx = 0 ∧ s = 0 ∧ f = false) ∨
  (c ≠ 0 ∧ valueOk mn ∧ valueOk mx ∧ mn ≤ mx ∧ ((f = true ∧ s = 0) ∨ (f = false ∧ z = c ∧ -1000000000 * c ≤ s ∧ s ≤ 1000000000 * c)))
def goodAgg (c s mn mx : Int) (h : List Int) (f : Bool) : Prop := (0 ≤ c ∧ c ≤ 1000000000) ∧ h.length = 8 ∧ histOk h ∧ aggTail c s mn mx f (sum8 h)
instance (c s mn mx : Int) (f : Bool) (z : Int) : Decidable (aggTail c s mn mx f z) := inferInstanceAs (Decidable (_ ∨ _))
instance (c s mn mx : Int) (h : List Int) (f : Bool) : Decidable (goodAgg c s mn mx h f) := inferInstanceAs (Decidable (_ ∧ _))
theorem aggTail_pos {c s mn mx : Int} {f : Bool} {z : Int} (e0 : c ≠ 0) : aggTail c s mn mx f z ↔ (valueOk mn ∧ valueOk mx ∧ mn ≤ mx ∧ ((f = true ∧ s = 0) ∨ (f = false ∧ z = c ∧ -1000000000 * c ≤ s ∧ s ≤ 1000000000 * c))) := by
  constructor
  · intro h
    rcases h with h | h
    · exact absurd h.1 e0
    · exact h.2
  · intro h
    exact .inr ⟨e0, h⟩
theorem szAgg_eq (c s mn mx : Int) (h : List Int) (f : Bool) (hl : h.length ≤ 9223372036854775807) : ∃ z, laws_szAgg.f c s mn mx h f 1048576 = some z ∧ (z < 0 ∨ h.length ≤ 1048576) := by
  unfold laws_szAgg.f
  rw [szIntS_eq h 1048576 (by omega) (by omega) hl]
  simp only [Option.bind_some]
  by_cases hh : (1048576 : Int) - h.length < 0
  · exact ⟨-1, by rw [if_pos hh]; rfl, .inl (by omega)⟩
  · exact ⟨1048576 - h.length, by rw [if_neg hh, if_neg hh], .inr (by omega)⟩
theorem toAgg_ev (c s mn mx : Int) (h : List Int) (f : Bool) (hl : h.length ≤ 1048576) : Ev (fun k => laws_toAgg.f k c s mn mx h f) (c, s, mn, mx, h, f) := by
  unfold laws_toAgg.f
  exact Ev.bind (toIntS_ev h (by omega)) (Ev.now _)
theorem eqAgg_same (c s mn mx : Int) (h : List Int) (f : Bool) (hl : h.length ≤ 1048576) : Ev (fun k => laws_eqAgg.f k c s mn mx h f c s mn mx h f) true := by
  unfold laws_eqAgg.f
  simp only [if_true, bne_self_eq_false, Bool.false_eq_true, if_false]
  exact Ev.bind (eqIntS_same h h (by omega) rfl) (Ev_cast (by simp only [if_true]; exact Ev.now _) rfl)
/-- What a list of whole numbers reads once it was marked from m on. -/
def imarkedFrom (m : Int) : Nat → List Int
  | 0 => []
  | n + 1 => m :: imarkedFrom (m + 1) n
theorem imarkedFrom_length (n : Nat) : ∀ m, (imarkedFrom m n).length = n := by
  induction n with
  | zero => intro m; rfl
  | succ n ih => intro m; simp [imarkedFrom, ih]
theorem markIntS_l0 (m : Int) : ∀ (d i : Nat) (l : List Int), l.length - i = d → i ≤ l.length → l.length ≤ 1152921504606846976 → 0 ≤ m → m ≤ 1152921504606846976 + i →
    Ev (fun k => laws_markIntS.l0 k l m (i : Int)) (m + d, l.take i ++ imarkedFrom m d) := by
  intro d
  induction d generalizing m with
  | zero =>
    intro i l hd hi hl h0 hm
    refine Ev_succ ?_
    simp only [laws_markIntS.l0]
    simp only [if_neg (show ¬ (i : Int) < (l.length : Int) by omega)]
    exact Ev_cast (Ev.now _) (by rw [List.take_of_length_le (by omega)]; simp [imarkedFrom])
  | succ d ih =>
    intro i l hd hi hl h0 hm
    refine Ev_succ ?_
    simp only [laws_markIntS.l0]
    simp only [if_pos (show (i : Int) < (l.length : Int) by omega), if_pos (show 0 ≤ (i : Int) by omega)]
    rw [w64 (n := m + 1) (by omega) (by omega), w64 (by omega) (by omega)]
    refine Ev_cast (ih (m + 1) (i + 1) (l.set i (m)) (by simp; omega) (by simp; omega) (by simpa using hl) (by omega) (by omega)) ?_
    refine Prod.ext (by simp; omega) ?_
    show (l.set i (m)).take (i + 1) ++ imarkedFrom (m + 1) d = l.take i ++ imarkedFrom m (d + 1)
    have : (l.set i (m)).take (i + 1) = l.take i ++ [m] := by
      apply List.ext_getElem?
      intro j
      rw [List.getElem?_take, List.getElem?_append, List.getElem?_set]
      have : (l.take i).length = i := by simp; omega
      rw [this]
      by_cases h1 : j < i
      · rw [if_pos (by omega), if_neg (by omega), if_pos h1, List.getElem?_take, if_pos h1]
      · by_cases h2 : j = i
        · subst h2; simp; omega
        · rw [if_neg (by omega), if_neg h1]; simp; omega
    rw [this]; simp [imarkedFrom]
theorem markIntS_ev (l : List Int) (m : Int) (hl : l.length ≤ 1152921504606846976) (h0 : 0 ≤ m) (hm : m ≤ 1152921504606846976) : Ev (fun k => laws_markIntS.f k l m) (m + l.length, imarkedFrom m l.length) := by
  unfold laws_markIntS.f
  exact Ev_cast (markIntS_l0 m l.length 0 l (by omega) (by omega) hl h0 (by omega)) (by simp)
theorem markAgg_ev (c s mn mx : Int) (h : List Int) (f : Bool) (hl : h.length ≤ 1048576) : Ev (fun k => laws_markAgg.f k c s mn mx h f 1) (1 + (h.length : Int), imarkedFrom 1 h.length) := by
  unfold laws_markAgg.f
  exact Ev.bind (markIntS_ev h 1 (by omega) (by omega) (by omega)) (Ev.now _)
theorem spec_GoodAgg_l0 (c s mn mx : Int) (h : List Int) (f : Bool) (h8 : h.length = 8) (R : Int → Bool) (fin : ∀ z : Int, 0 ≤ z → z ≤ 8000000000 → Ev (fun k => spec_GoodAgg.l0 k z h (h.length : Int) (8 : Int) c s mn mx h f) (R z)) :
    ∀ (d i : Nat) (z : Int), 8 - i = d → i ≤ 8 → 0 ≤ z → z ≤ 1000000000 * i → Ev (fun k => spec_GoodAgg.l0 k z h (h.length : Int) (i : Int) c s mn mx h f) (if histOk (h.drop i) then R (z + sum8 (h.drop i)) else false) := by
  intro d
  induction d with
  | zero =>
    intro i z hd hi h0 h1
    obtain rfl : i = 8 := by omega
    rw [List.drop_eq_nil_of_le (by omega), if_pos (show histOk [] from fun x hx => by cases hx)]
    simp only [sum8, Int.add_zero]
    exact fin z h0 (by omega)
  | succ d ih =>
    intro i z hd hi h0 h1
    refine Ev_succ ?_
    simp only [spec_GoodAgg.l0]
    simp only [if_pos (show (i : Int) < (h.length : Int) by omega), if_pos (show 0 ≤ (i : Int) by omega)]
    rw [rd_lt (by omega), drop_cons (l := h) (i := i) (by omega)]
    refine Ev.bind (Ev_some (l1In_eq _ _ _)) ?_
    by_cases hx : 0 ≤ h[i]'(by omega) ∧ h[i]'(by omega) ≤ 1000000000
    · rw [decide_eq_true hx]
      simp only [if_true]
      rw [w64 (n := (i : Int) + 1) (by omega) (by omega), w64 (by omega) (by omega)]
      refine Ev_cast (ih (i + 1) _ (by omega) (by omega) (by omega) (by omega)) ?_
      by_cases hr : histOk (h.drop (i + 1))
      · rw [if_pos hr, if_pos ((histOk_cons _ _).2 ⟨hx, hr⟩)]
        simp only [sum8]
        rw [Int.add_assoc]
      · rw [if_neg hr, if_neg (fun hh => hr ((histOk_cons _ _).1 hh).2)]
    · rw [decide_eq_false hx, if_neg (fun hh => hx ((histOk_cons _ _).1 hh).1)]
      simp only [Bool.false_eq_true, if_false]
      exact Ev.now _
theorem spec_GoodAgg_fin (c s mn mx : Int) (h : List Int) (f : Bool) (h8 : h.length = 8) (hc : 0 ≤ c ∧ c ≤ 1000000000) (z : Int) (h0 : 0 ≤ z) (h1 : z ≤ 8000000000) :
    Ev (fun k => spec_GoodAgg.l0 k z h (h.length : Int) (8 : Int) c s mn mx h f) (decide (aggTail c s mn mx f z)) := by
  refine Ev_succ ?_
  simp only [spec_GoodAgg.l0]
  simp only [if_neg (show ¬ (8 : Int) < (h.length : Int) by omega)]
  by_cases e0 : c = 0
  · simp only [if_pos e0]
    by_cases e1 : z = 0
    · simp only [if_pos e1]
      by_cases e2 : mn = 0
      · simp only [if_pos e2]
        by_cases e3 : mx = 0
        · simp only [if_pos e3]
          by_cases e4 : s = 0
          · simp only [if_pos e4]
            refine Ev_cast (Ev.now _) ?_
            cases f <;> simp [aggTail, e0, e1, e2, e3, e4]
          · simp only [if_neg e4]
            exact Ev_cast (Ev.now _) (by simp [aggTail, e0, e4])
        · simp only [if_neg e3]
          exact Ev_cast (Ev.now _) (by simp [aggTail, e0, e3])
      · simp only [if_neg e2]
        exact Ev_cast (Ev.now _) (by simp [aggTail, e0, e2])
    · simp only [if_neg e1]
      exact Ev_cast (Ev.now _) (by simp [aggTail, e0, e1])
  · simp only [if_neg e0]
    have bad : ∀ P : Prop, ¬ P → (aggTail c s mn mx f z → P) → Ev (fun k => spec_GoodAgg.j2 k z true c s mn mx h f) (decide (aggTail c s mn mx f z)) := by
      intro P hP hh
      refine Ev_succ ?_
      simp only [spec_GoodAgg.j2, if_true]
      exact Ev_cast (Ev.now _) (decide_eq_false (fun ht => hP (hh ht))).symm
    refine Ev.bind (Ev_some (l4Value_eq _)) ?_
    by_cases v1 : -1000000000 ≤ mn ∧ mn ≤ 1000000000
    · rw [decide_eq_true v1]
      simp only [if_true]
      refine Ev.bind (Ev_some (l4Value_eq _)) ?_
      by_cases v2 : -1000000000 ≤ mx ∧ mx ≤ 1000000000
      · rw [decide_eq_true v2]
        simp only [if_true]
        by_cases v3 : mn > mx
        · rw [decide_eq_true v3]
          exact bad (mn ≤ mx) (by omega) (fun hh => ((aggTail_pos e0).1 hh).2.2.1)
        · rw [decide_eq_false v3]
          refine Ev_succ ?_
          simp only [spec_GoodAgg.j2, Bool.false_eq_true, if_false]
          cases f with
          | true =>
            simp only [if_true]
            refine Ev_cast (Ev.now _) ?_
            rw [Bool.eq_iff_iff]
            simp only [beq_iff_eq, decide_eq_true_eq]
            rw [aggTail_pos e0]
            constructor
            · intro hs
              exact ⟨v1, v2, by omega, .inl ⟨rfl, hs⟩⟩
            · intro hh
              rcases hh.2.2.2 with hz | hz
              · exact hz.2
              · cases hz.1
          | false =>
            simp only [Bool.false_eq_true, if_false]
            by_cases e5 : z = c
            · simp only [if_pos e5]
              refine Ev.bind (Ev_some (l1In_eq _ _ _)) ?_
              rw [w64 (by omega) (by omega), w64 (by omega) (by omega)]
              refine Ev_cast (Ev.now _) ?_
              rw [decide_eq_decide, aggTail_pos e0]
              constructor
              · intro hs
                exact ⟨v1, v2, by omega, .inr ⟨rfl, e5, hs.1, hs.2⟩⟩
              · intro hh
                rcases hh.2.2.2 with hz | hz
                · cases hz.1
                · exact hz.2.2
            · simp only [if_neg e5]
              refine Ev_cast (Ev.now _) (decide_eq_false ?_).symm
              intro hh
              rcases ((aggTail_pos e0).1 hh).2.2.2 with hz | hz
              · cases hz.1
              · exact e5 hz.2.1
      · rw [decide_eq_false v2]
        simp only [Bool.false_eq_true, if_false]
        exact bad (valueOk mx) v2 (fun hh => ((aggTail_pos e0).1 hh).2.1)
    · rw [decide_eq_false v1]
      simp only [Bool.false_eq_true, if_false]
      exact bad (valueOk mn) v1 (fun hh => ((aggTail_pos e0).1 hh).1)
theorem spec_GoodAgg_ev (c s mn mx : Int) (h : List Int) (f : Bool) : Ev (fun k => spec_GoodAgg.f k c s mn mx h f) (decide (goodAgg c s mn mx h f)) := by
  unfold spec_GoodAgg.f
  have bad : ¬ goodAgg c s mn mx h f → Ev (fun k => spec_GoodAgg.j0 k true c s mn mx h f) (decide (goodAgg c s mn mx h f)) := by
    intro hn
    refine Ev_succ ?_
    simp only [spec_GoodAgg.j0, if_true]
    exact Ev_cast (Ev.now _) (decide_eq_false hn).symm
  refine Ev.bind (Ev_some (l1In_eq _ _ _)) ?_
  by_cases hc : 0 ≤ c ∧ c ≤ 1000000000
  · rw [decide_eq_true hc]
    simp only [if_true]
    by_cases h8 : h.length = 8
    · rw [show (((h.length : Int)) != 8) = false by simp [h8]]
      refine Ev_succ ?_
      simp only [spec_GoodAgg.j0, Bool.false_eq_true, if_false]
      refine Ev_cast (spec_GoodAgg_l0 c s mn mx h f h8 _ (fun z h0 h1 => spec_GoodAgg_fin c s mn mx h f h8 hc z h0 h1) 8 0 0 (by omega) (by omega) (by omega) (by omega)) ?_
      rw [List.drop_zero, Int.zero_add]
      by_cases hh : histOk h
      · rw [if_pos hh, decide_eq_decide]
        exact ⟨fun ht => ⟨hc, h8, hh, ht⟩, fun hg => hg.2.2.2⟩
      · rw [if_neg hh]
        exact (decide_eq_false (fun hg => hh hg.2.2.1)).symm
    · rw [show (((h.length : Int)) != 8) = true by simp; omega]
      exact bad (fun hg => h8 hg.2.1)
  · rw [decide_eq_false hc]
    simp only [Bool.false_eq_true, if_false]
    exact bad (fun hg => hc hg.1)
theorem impl_GoodAgg_l0 (c s mn mx : Int) (h : List Int) (f : Bool) (h8 : h.length = 8) (R : Int → Bool) (fin : ∀ z : Int, 0 ≤ z → z ≤ 8000000000 → Ev (fun k => impl_GoodAgg.l0 k z h (h.length : Int) (8 : Int) c s mn mx h f) (R z)) :
    ∀ (d i : Nat) (z : Int), 8 - i = d → i ≤ 8 → 0 ≤ z → z ≤ 1000000000 * i → Ev (fun k => impl_GoodAgg.l0 k z h (h.length : Int) (i : Int) c s mn mx h f) (if histOk (h.drop i) then R (z + sum8 (h.drop i)) else false) := by
  intro d
  induction d with
  | zero =>
    intro i z hd hi h0 h1
    obtain rfl : i = 8 := by omega
    rw [List.drop_eq_nil_of_le (by omega), if_pos (show histOk [] from fun x hx => by cases hx)]
    simp only [sum8, Int.add_zero]
    exact fin z h0 (by omega)
  | succ d ih =>
    intro i z hd hi h0 h1
    refine Ev_succ ?_
    simp only [impl_GoodAgg.l0]
    simp only [if_pos (show (i : Int) < (h.length : Int) by omega), if_pos (show 0 ≤ (i : Int) by omega)]
    rw [rd_lt (by omega), drop_cons (l := h) (i := i) (by omega)]
    refine Ev.bind (Ev_some (within_eq _ _ _)) ?_
    by_cases hx : 0 ≤ h[i]'(by omega) ∧ h[i]'(by omega) ≤ 1000000000
    · rw [decide_eq_true hx]
      simp only [if_true]
      rw [w64 (n := (i : Int) + 1) (by omega) (by omega), w64 (by omega) (by omega)]
      refine Ev_cast (ih (i + 1) _ (by omega) (by omega) (by omega) (by omega)) ?_
      by_cases hr : histOk (h.drop (i + 1))
      · rw [if_pos hr, if_pos ((histOk_cons _ _).2 ⟨hx, hr⟩)]
        simp only [sum8]
        rw [Int.add_assoc]
      · rw [if_neg hr, if_neg (fun hh => hr ((histOk_cons _ _).1 hh).2)]
    · rw [decide_eq_false hx, if_neg (fun hh => hx ((histOk_cons _ _).1 hh).1)]
      simp only [Bool.false_eq_true, if_false]
      exact Ev.now _
theorem impl_GoodAgg_j3 (c s mn mx : Int) (h : List Int) (f : Bool) (z : Int) (b : Bool) (hb : b = true ↔ ¬ ((f = true ∧ s = 0) ∨ (f = false ∧ z = c ∧ -1000000000 * c ≤ s ∧ s ≤ 1000000000 * c))) :
    Ev (fun k => impl_GoodAgg.j3 k z b c s mn mx h f) (decide (aggTail c s mn mx f z)) := by
  refine Ev_succ ?_
  simp only [impl_GoodAgg.j3]
  cases b with
  | true =>
    simp only [if_true]
    refine Ev_cast (Ev.now _) (decide_eq_false ?_).symm
    have hn := hb.1 rfl
    rintro (hh | hh)
    · exact hn (.inr ⟨hh.2.2.2.2.2, by omega, by omega, by omega⟩)
    · exact hn hh.2.2.2.2
  | false =>
    have hy : (f = true ∧ s = 0) ∨ (f = false ∧ z = c ∧ -1000000000 * c ≤ s ∧ s ≤ 1000000000 * c) := by
      by_cases hy : (f = true ∧ s = 0) ∨ (f = false ∧ z = c ∧ -1000000000 * c ≤ s ∧ s ≤ 1000000000 * c)
      · exact hy
      · exact absurd (hb.2 hy) (by simp)
    simp only [Bool.false_eq_true, if_false]
    by_cases e0 : c = 0
    · simp only [if_pos e0]
      by_cases e2 : mn = 0
      · simp only [if_pos e2]
        by_cases e3 : mx = 0
        · simp only [if_pos e3]
          by_cases e1 : z = 0
          · simp only [if_pos e1]
            refine Ev_cast (Ev.now _) ?_
            rw [Bool.eq_iff_iff, decide_eq_true_eq, Bool.not_eq_true']
            refine ⟨fun hf => .inl ⟨e0, e1, e2, e3, ?_, hf⟩, ?_⟩
            · rcases hy with hy | hy
              · rw [hf] at hy; cases hy.1
              · omega
            · rintro (hh | hh)
              · exact hh.2.2.2.2.2
              · exact absurd e0 hh.1
          · simp only [if_neg e1]
            exact Ev_cast (Ev.now _) (by simp [aggTail, e0, e1])
        · simp only [if_neg e3]
          exact Ev_cast (Ev.now _) (by simp [aggTail, e0, e3])
      · simp only [if_neg e2]
        exact Ev_cast (Ev.now _) (by simp [aggTail, e0, e2])
    · simp only [if_neg e0]
      refine Ev.bind (Ev_some (isValue_eq _)) ?_
      by_cases v1 : -1000000000 ≤ mn ∧ mn ≤ 1000000000
      · rw [decide_eq_true v1]
        simp only [if_true]
        refine Ev.bind (Ev_some (isValue_eq _)) ?_
        by_cases v2 : -1000000000 ≤ mx ∧ mx ≤ 1000000000
        · rw [decide_eq_true v2]
          simp only [if_true]
          refine Ev_cast (Ev.now _) ?_
          rw [decide_eq_decide]
          rw [aggTail_pos e0]
          exact ⟨fun hm => ⟨v1, v2, hm, hy⟩, fun hh => hh.2.2.1⟩
        · rw [decide_eq_false v2]
          simp only [Bool.false_eq_true, if_false]
          exact Ev_cast (Ev.now _) (decide_eq_false (fun hh => v2 ((aggTail_pos e0).1 hh).2.1)).symm
      · rw [decide_eq_false v1]
        simp only [Bool.false_eq_true, if_false]
        exact Ev_cast (Ev.now _) (decide_eq_false (fun hh => v1 ((aggTail_pos e0).1 hh).1)).symm
theorem impl_GoodAgg_j2 (c s mn mx : Int) (h : List Int) (f : Bool) (hc : 0 ≤ c ∧ c ≤ 1000000000) (z : Int) (b : Bool) (hb : b = true ↔ (f = true ∧ s ≠ 0)) :
    Ev (fun k => impl_GoodAgg.j2 k z b c s mn mx h f) (decide (aggTail c s mn mx f z)) := by
  refine Ev_succ ?_
  simp only [impl_GoodAgg.j2]
  cases b with
  | true =>
    simp only [if_true]
    obtain ⟨hf, hs⟩ := hb.1 rfl
    refine Ev_cast (Ev.now _) (decide_eq_false ?_).symm
    rintro (hh | hh)
    · exact hs hh.2.2.2.2.1
    · rcases hh.2.2.2.2 with hz | hz
      · exact hs hz.2
      · rw [hf] at hz; cases hz.1
  | false =>
    have hy : ¬ (f = true ∧ s ≠ 0) := fun hh => by have := hb.2 hh; cases this
    simp only [Bool.false_eq_true, if_false]
    cases f with
    | true =>
      simp only [if_true]
      refine impl_GoodAgg_j3 c s mn mx h true z false ⟨fun hh => (by cases hh), fun hh => ?_⟩
      exact absurd (Or.inl ⟨rfl, Decidable.byContradiction fun hs => hy ⟨rfl, hs⟩⟩) hh
    | false =>
      simp only [Bool.false_eq_true, if_false]
      by_cases e5 : z = c
      · simp only [if_pos e5]
        refine Ev.bind (Ev_some (within_eq _ _ _)) ?_
        rw [w64 (by omega) (by omega), w64 (by omega) (by omega)]
        refine impl_GoodAgg_j3 c s mn mx h false z _ ?_
        rw [Bool.not_eq_true', decide_eq_false_iff_not]
        simp [e5]
      · simp only [if_neg e5]
        refine impl_GoodAgg_j3 c s mn mx h false z true ?_
        simp [e5]
theorem impl_GoodAgg_fin (c s mn mx : Int) (h : List Int) (f : Bool) (h8 : h.length = 8) (hc : 0 ≤ c ∧ c ≤ 1000000000) (z : Int) (h0 : 0 ≤ z) (h1 : z ≤ 8000000000) :
    Ev (fun k => impl_GoodAgg.l0 k z h (h.length : Int) (8 : Int) c s mn mx h f) (decide (aggTail c s mn mx f z)) := by
  refine Ev_succ ?_
  simp only [impl_GoodAgg.l0]
  simp only [if_neg (show ¬ (8 : Int) < (h.length : Int) by omega)]
  cases f with
  | true =>
    simp only [if_true]
    exact impl_GoodAgg_j2 c s mn mx h true hc z _ (by simp)
  | false =>
    simp only [Bool.false_eq_true, if_false]
    exact impl_GoodAgg_j2 c s mn mx h false hc z _ (by simp)
theorem impl_GoodAgg_ev (c s mn mx : Int) (h : List Int) (f : Bool) : Ev (fun k => impl_GoodAgg.f k c s mn mx h f) (decide (goodAgg c s mn mx h f)) := by
  unfold impl_GoodAgg.f
  have bad : ¬ goodAgg c s mn mx h f → Ev (fun k => impl_GoodAgg.j0 k true c s mn mx h f) (decide (goodAgg c s mn mx h f)) := by
    intro hn
    refine Ev_succ ?_
    simp only [impl_GoodAgg.j0, if_true]
    exact Ev_cast (Ev.now _) (decide_eq_false hn).symm
  refine Ev.bind (Ev_some (within_eq _ _ _)) ?_
  by_cases hc : 0 ≤ c ∧ c ≤ 1000000000
  · rw [decide_eq_true hc]
    simp only [if_true]
    by_cases h8 : h.length = 8
    · rw [show (((h.length : Int)) != 8) = false by simp [h8]]
      refine Ev_succ ?_
      simp only [impl_GoodAgg.j0, Bool.false_eq_true, if_false]
      refine Ev_cast (impl_GoodAgg_l0 c s mn mx h f h8 _ (fun z h0 h1 => impl_GoodAgg_fin c s mn mx h f h8 hc z h0 h1) 8 0 0 (by omega) (by omega) (by omega) (by omega)) ?_
      rw [List.drop_zero, Int.zero_add]
      by_cases hh : histOk h
      · rw [if_pos hh, decide_eq_decide]
        exact ⟨fun ht => ⟨hc, h8, hh, ht⟩, fun hg => hg.2.2.2⟩
      · rw [if_neg hh]
        exact (decide_eq_false (fun hg => hh hg.2.2.1)).symm
    · rw [show (((h.length : Int)) != 8) = true by simp; omega]
      exact bad (fun hg => h8 hg.2.1)
  · rw [decide_eq_false hc]
    simp only [Bool.false_eq_true, if_false]
    exact bad (fun hg => hc hg.1)
/-! ### the laws' own words on bytes -/
theorem eqByteS_l0 (a b : List Int) (hl : a.length = b.length) (hb : a.length ≤ 4611686018427387904) :
    ∀ (d i : Nat), a.length - i = d → i ≤ a.length → Ev (fun k => laws_eqByteS.l0 k a b (i : Int)) (decide (a.drop i = b.drop i)) := by
  intro d
  induction d with
  | zero =>
    intro i hd hi
    refine Ev_succ ?_
    simp only [laws_eqByteS.l0]
    simp only [if_neg (show ¬ (i : Int) < (a.length : Int) by omega)]
    exact Ev_cast (Ev.now _) (by rw [List.drop_eq_nil_of_le (by omega), List.drop_eq_nil_of_le (by omega)]; simp)
  | succ d ih =>
    intro i hd hi
    refine Ev_succ ?_
    simp only [laws_eqByteS.l0]
    simp only [if_pos (show (i : Int) < (a.length : Int) by omega), if_pos (show 0 ≤ (i : Int) by omega), if_pos (show (i : Int) < (b.length : Int) by omega)]
    rw [rd_lt (by omega), rd_lt (by omega), w64 (by omega) (by omega), drop_cons (l := a) (by omega), drop_cons (l := b) (i := i) (by omega)]
    by_cases e : a[i]'(by omega) = b[i]'(by omega)
    · simp only [if_pos e]
      exact Ev_cast (ih (i + 1) (by omega) (by omega)) (decide_eq_decide.2 (by rw [List.cons.injEq]; exact ⟨fun h => ⟨e, h⟩, fun h => h.2⟩))
    · simp only [if_neg e]
      exact Ev_cast (Ev.now _) (Eq.symm (decide_eq_false (by rw [List.cons.injEq]; exact fun h => e h.1)))
theorem eqByteS_ev (a b : List Int) (ha : a.length ≤ 4611686018427387904) : Ev (fun k => laws_eqByteS.f k a b) (decide (a = b)) := by
  unfold laws_eqByteS.f
  by_cases h : a.length = b.length
  · simp only [if_pos (show (a.length : Int) = (b.length : Int) by omega)]
    exact eqByteS_l0 a b h ha a.length 0 (by omega) (by omega)
  · simp only [if_neg (show ¬ (a.length : Int) = (b.length : Int) by omega)]
    exact Ev_cast (Ev.now _) (by simp; intro e; exact h (by rw [e]))
theorem eqByteS_same (a b : List Int) (ha : a.length ≤ 4611686018427387904) (e : a = b) : Ev (fun k => laws_eqByteS.f k a b) true := Ev_cast (eqByteS_ev a b ha) (by simp [e])
/-- What a list reads once it was marked from m on. -/
def markedFrom (m : Int) : Nat → List Int
  | 0 => []
  | n + 1 => (m % 256) :: markedFrom (m + 1) n
theorem markedFrom_length (n : Nat) : ∀ m, (markedFrom m n).length = n := by
  induction n with
  | zero => intro m; rfl
  | succ n ih => intro m; simp [markedFrom, ih]
theorem markByteS_l0 (m : Int) : ∀ (d i : Nat) (l : List Int), l.length - i = d → i ≤ l.length → l.length ≤ 1152921504606846976 → 0 ≤ m → m ≤ 1152921504606846976 + i →
    Ev (fun k => laws_markByteS.l0 k l m (i : Int)) (m + d, l.take i ++ markedFrom m d) := by
  intro d
  induction d generalizing m with
  | zero =>
    intro i l hd hi hl h0 hm
    refine Ev_succ ?_
    simp only [laws_markByteS.l0]
    simp only [if_neg (show ¬ (i : Int) < (l.length : Int) by omega)]
    exact Ev_cast (Ev.now _) (by rw [List.take_of_length_le (by omega)]; simp [markedFrom])
  | succ d ih =>
    intro i l hd hi hl h0 hm
    refine Ev_succ ?_
    simp only [laws_markByteS.l0]
    simp only [if_pos (show (i : Int) < (l.length : Int) by omega), if_pos (show 0 ≤ (i : Int) by omega)]
    rw [w64 (n := m + 1) (by omega) (by omega), w64 (by omega) (by omega)]
    refine Ev_cast (ih (m + 1) (i + 1) (l.set i (m % 256)) (by simp; omega) (by simp; omega) (by simpa using hl) (by omega) (by omega)) ?_
    refine Prod.ext (by simp; omega) ?_
    show (l.set i (m % 256)).take (i + 1) ++ markedFrom (m + 1) d = l.take i ++ markedFrom m (d + 1)
    have : (l.set i (m % 256)).take (i + 1) = l.take i ++ [m % 256] := by
      apply List.ext_getElem?
      intro j
      rw [List.getElem?_take, List.getElem?_append, List.getElem?_set]
      have : (l.take i).length = i := by simp; omega
      rw [this]
      by_cases h1 : j < i
      · rw [if_pos (by omega), if_neg (by omega), if_pos h1, List.getElem?_take, if_pos h1]
      · by_cases h2 : j = i
        · subst h2; simp; omega
        · rw [if_neg (by omega), if_neg h1]; simp; omega
    rw [this]; simp [markedFrom]
theorem markByteS_ev (l : List Int) (m : Int) (hl : l.length ≤ 1152921504606846976) (h0 : 0 ≤ m) (hm : m ≤ 1152921504606846976) : Ev (fun k => laws_markByteS.f k l m) (m + l.length, markedFrom m l.length) := by
  unfold laws_markByteS.f
  exact Ev_cast (markByteS_l0 m l.length 0 l (by omega) (by omega) hl h0 (by omega)) (by simp)
theorem heldByteS_l0 : ∀ (n : Nat) (m : Int) (i : Nat) (p : List Int), p.length = i → i + n ≤ 1152921504606846976 → 0 ≤ m → m ≤ 1152921504606846976 + i →
    Ev (fun k => laws_heldByteS.l0 k (p ++ markedFrom m n) m (i : Int)) (m + n) := by
  intro n
  induction n with
  | zero =>
    intro m i p hp hl h0 hm
    refine Ev_succ ?_
    simp only [laws_heldByteS.l0]
    simp only [markedFrom, List.append_nil, if_neg (show ¬ (i : Int) < (p.length : Int) by omega)]
    exact Ev_cast (Ev.now _) (by simp)
  | succ n ih =>
    intro m i p hp hl h0 hm
    refine Ev_succ ?_
    simp only [laws_heldByteS.l0]
    have hlen : (p ++ markedFrom m (n + 1)).length = i + n + 1 := by rw [List.length_append, markedFrom_length]; omega
    have hr : rd (p ++ markedFrom m (n + 1)) (i : Int) = m % 256 := by
      rw [rd_lt (by omega)]; simp [markedFrom, hp]
    simp only [if_pos (show (i : Int) < ((p ++ markedFrom m (n + 1)).length : Int) by omega), if_pos (show 0 ≤ (i : Int) by omega), hr, if_true]
    rw [w64 (n := m + 1) (by omega) (by omega), w64 (by omega) (by omega)]
    have e : p ++ markedFrom m (n + 1) = (p ++ [m % 256]) ++ markedFrom (m + 1) n := by simp [markedFrom]
    rw [e]
    exact Ev_cast (ih (m + 1) (i + 1) (p ++ [m % 256]) (by simp [hp]) (by omega) (by omega) (by omega)) (by omega)
theorem heldByteS_ev (m : Int) (n : Nat) (hl : n ≤ 1152921504606846976) (h0 : 0 ≤ m) (hm : m ≤ 1152921504606846976) : Ev (fun k => laws_heldByteS.f k (markedFrom m n) m) (m + n) := by
  unfold laws_heldByteS.f
  exact heldByteS_l0 n m 0 [] rfl (by omega) h0 (by omega)
/-! ### PutVar -/
def putVar (n : Nat) : List Int := if 127 < n then ((n % 128 + 128 : Nat) : Int) :: putVar (n / 128) else [(n : Int)]
termination_by n
decreasing_by omega
theorem putVar_small {n : Nat} (h : n ≤ 127) : putVar n = [(n : Int)] := by rw [putVar, if_neg (by omega)]
theorem putVar_big {n : Nat} (h : 127 < n) : putVar n = ((n % 128 + 128 : Nat) : Int) :: putVar (n / 128) := by rw [putVar, if_pos h]
theorem putVar_length_le : ∀ (m n : Nat), n < 128 ^ (m + 1) → (putVar n).length ≤ m + 1 := by
  intro m
  induction m with
  | zero => intro n h; rw [putVar_small (by simpa using Nat.le_of_lt_succ h)]; simp
  | succ m ih =>
    intro n h
    by_cases hn : 127 < n
    · rw [putVar_big hn]
      have := ih (n / 128) (by rw [Nat.div_lt_iff_lt_mul (by omega), ← Nat.pow_succ]; exact h)
      simp; omega
    · rw [putVar_small (by omega)]; simp
theorem putVar_length_64 {n : Nat} (h : n ≤ 18446744073709551615) : (putVar n).length ≤ 10 := putVar_length_le 9 n (by omega)
theorem putVar_bytes : ∀ n, Bytes (putVar n) := by
  intro n
  induction n using Nat.strongRecOn with
  | ind n ih =>
    by_cases hn : 127 < n
    · rw [putVar_big hn]
      intro x hx
      rcases List.mem_cons.1 hx with rfl | hx
      · omega
      · exact ih _ (by omega) x hx
    · rw [putVar_small (by omega)]; exact Bytes.one (by omega) (by omega)
theorem putVar_ne_nil (n : Nat) : putVar n ≠ [] := by
  by_cases hn : 127 < n
  · rw [putVar_big hn]; simp
  · rw [putVar_small (by omega)]; simp
theorem putVar_pos (n : Nat) : 1 ≤ (putVar n).length := by
  have := putVar_ne_nil n
  cases h : putVar n with
  | nil => exact absurd h this
  | cons _ _ => simp
theorem or128 : ∀ x : Fin 256, Go.bits .or .u8 (x.val : Int) 128 = ((x.val % 128 + 128 : Nat) : Int) := by decide +kernel
theorem or128_nat (n : Nat) : Go.bits .or .u8 ((n : Int) % 256) 128 = ((n % 128 + 128 : Nat) : Int) := by
  have := or128 ⟨n % 256, by omega⟩
  simp only at this
  rw [show ((n : Int) % 256) = ((n % 256 : Nat) : Int) by omega, this]
  omega
theorem spec_PutVar_l0 : ∀ (n : Nat) (acc : List Int), acc.length + (putVar n).length ≤ 140737488355328 → Ev (fun k => spec_PutVar.l0 k (n : Int) acc) (acc ++ putVar n) := by
  intro n
  induction n using Nat.strongRecOn with
  | ind n ih =>
    intro acc h
    refine Ev_succ ?_
    simp only [spec_PutVar.l0]
    have hp := putVar_pos n
    by_cases hn : 127 < n
    · simp only [if_pos (show (n : Int) > 127 by omega), if_pos (show acc.length < 140737488355328 by omega)]
      rw [or128_nat, show (n : Int) / 128 = ((n / 128 : Nat) : Int) by omega]
      rw [putVar_big hn] at h
      refine Ev_cast (ih (n / 128) (by omega) _ (by simp at h ⊢; omega)) ?_
      rw [putVar_big hn]; simp
    · simp only [if_neg (show ¬ (n : Int) > 127 by omega), if_pos (show acc.length < 140737488355328 by omega)]
      rw [putVar_small (by omega), show (n : Int) % 256 = n by omega]
      exact Ev.now _
theorem spec_PutVar_ev (n : Nat) (h : n ≤ 18446744073709551615) : Ev (fun k => spec_PutVar.f k (n : Int)) (putVar n) := by
  unfold spec_PutVar.f
  have := putVar_length_64 h
  exact Ev_cast (spec_PutVar_l0 n [] (by simp; omega)) (by simp)
theorem impl_PutVar_l0 : ∀ (n : Nat) (acc : List Int), acc.length + (putVar n).length ≤ 140737488355328 → Ev (fun k => impl_PutVar.l0 k (n : Int) acc) (acc ++ putVar n) := by
  intro n
  induction n using Nat.strongRecOn with
  | ind n ih =>
    intro acc h
    refine Ev_succ ?_
    simp only [impl_PutVar.l0]
    have hp := putVar_pos n
    by_cases hn : 127 < n
    · simp only [if_pos (show (n : Int) > 127 by omega), if_pos (show acc.length < 140737488355328 by omega)]
      rw [or128_nat, show (n : Int) / 128 = ((n / 128 : Nat) : Int) by omega]
      rw [putVar_big hn] at h
      refine Ev_cast (ih (n / 128) (by omega) _ (by simp at h ⊢; omega)) ?_
      rw [putVar_big hn]; simp
    · simp only [if_neg (show ¬ (n : Int) > 127 by omega), if_pos (show acc.length < 140737488355328 by omega)]
      rw [putVar_small (by omega), show (n : Int) % 256 = n by omega]
      exact Ev.now _
theorem impl_PutVar_ev (n : Nat) (h : n ≤ 18446744073709551615) : Ev (fun k => impl_PutVar.f k (n : Int)) (putVar n) := by
  unfold impl_PutVar.f
  have := putVar_length_64 h
  exact Ev_cast (impl_PutVar_l0 n [] (by simp; omega)) (by simp)
def zig (n : Int) : Nat := if n < 0 then (-2 * n - 1).toNat else (2 * n).toNat
def putAll : List Int → List Int
  | [] => []
  | n :: t => putVar (zig n) ++ putAll t
def aggB (c s mn mx : Int) (h : List Int) (f : Bool) : List Int := (if f = true then 1 else 0) :: putAll ([c, s, mn, mx] ++ h)
def smallOk (l : List Int) : Prop := ∀ x ∈ l, -1000000000000000000 ≤ x ∧ x ≤ 1000000000000000000
theorem zig_le {n : Int} (h : -1000000000000000000 ≤ n ∧ n ≤ 1000000000000000000) : zig n ≤ 2000000000000000000 := by
  unfold zig
  split <;> omega
theorem zig_wrap {n : Int} (h : -1000000000000000000 ≤ n ∧ n ≤ 1000000000000000000) : (n < 0 → IntKind.u64.wrap (wrap64 (wrap64 (-2 * n) - 1)) = (zig n : Int)) ∧ (¬ n < 0 → IntKind.u64.wrap (wrap64 (2 * n)) = (zig n : Int)) := by
  constructor
  · intro hn
    rw [w64 (n := -2 * n) (by omega) (by omega), w64 (by omega) (by omega), wrap_u64]
    unfold zig
    rw [if_pos hn]; omega
  · intro hn
    rw [w64 (by omega) (by omega), wrap_u64]
    unfold zig
    rw [if_neg hn]; omega
theorem putAll_length : ∀ l, smallOk l → (putAll l).length ≤ 10 * l.length := by
  intro l
  induction l with
  | nil => intro _; simp [putAll]
  | cons a t ih =>
    intro h
    have h1 := putVar_length_64 (n := zig a) (by have := zig_le (h a (List.mem_cons_self ..)); omega)
    have h2 := ih (fun x hx => h x (List.mem_cons_of_mem _ hx))
    simp only [putAll, List.length_append, List.length_cons]
    omega
theorem aggB_length (c s mn mx : Int) (h : List Int) (f : Bool) (hs : smallOk ([c, s, mn, mx] ++ h)) : (aggB c s mn mx h f).length ≤ 10 * h.length + 41 := by
  have := putAll_length _ hs
  unfold aggB
  simp at this ⊢
  omega
theorem goodAgg_small {c s mn mx : Int} {h : List Int} {f : Bool} (hg : goodAgg c s mn mx h f) : smallOk ([c, s, mn, mx] ++ h) := by
  obtain ⟨hc, h8, hh, ht⟩ := hg
  have hb : (-1000000000000000000 ≤ s ∧ s ≤ 1000000000000000000) ∧ (-1000000000 ≤ mn ∧ mn ≤ 1000000000) ∧ (-1000000000 ≤ mx ∧ mx ≤ 1000000000) := by
    rcases ht with ht | ht
    · omega
    · have v1 := ht.2.1
      have v2 := ht.2.2.1
      unfold valueOk at v1 v2
      rcases ht.2.2.2.2 with hz | hz <;> omega
  intro x hx
  simp only [List.cons_append, List.nil_append, List.mem_cons] at hx
  rcases hx with rfl | rfl | rfl | rfl | hx
  · omega
  · omega
  · omega
  · omega
  · have := hh x hx; omega
theorem spec_l4Bytes_l0 (l : List Int) (hs : smallOk l) (hl : l.length ≤ 1000000) : ∀ (d i : Nat) (acc : List Int), l.length - i = d → i ≤ l.length → acc.length + 10 * d ≤ 100000000 → Ev (fun k => spec_l4Bytes.l0 k acc l (l.length : Int) (i : Int)) (acc ++ putAll (l.drop i)) := by
  intro d
  induction d with
  | zero =>
    intro i acc hd hi ha
    refine Ev_succ ?_
    simp only [spec_l4Bytes.l0]
    simp only [if_neg (show ¬ (i : Int) < (l.length : Int) by omega)]
    rw [List.drop_eq_nil_of_le (by omega)]
    exact Ev_cast (Ev.now _) (by simp [putAll])
  | succ d ih =>
    intro i acc hd hi ha
    refine Ev_succ ?_
    simp only [spec_l4Bytes.l0]
    simp only [if_pos (show (i : Int) < (l.length : Int) by omega), if_pos (show 0 ≤ (i : Int) by omega)]
    rw [rd_lt (by omega), drop_cons (l := l) (i := i) (by omega)]
    have hx := hs (l[i]'(by omega)) (List.getElem_mem _)
    generalize l[i]'(by omega) = x at hx ⊢
    have hz := zig_le hx
    have hp := putVar_length_64 (n := zig x) (by omega)
    obtain ⟨z1, z2⟩ := zig_wrap hx
    have put : Ev (fun k => spec_l4Put.f k acc x) (acc ++ putVar (zig x)) := by
      unfold spec_l4Put.f
      by_cases hn : x < 0
      · simp only [if_pos hn, z1 hn]
        refine Ev.bind (spec_PutVar_ev _ (by omega)) ?_
        simp only [if_pos (show acc.length + (putVar (zig x)).length < 140737488355328 by omega)]
        exact Ev.now _
      · simp only [if_neg hn, z2 hn]
        refine Ev.bind (spec_PutVar_ev _ (by omega)) ?_
        simp only [if_pos (show acc.length + (putVar (zig x)).length < 140737488355328 by omega)]
        exact Ev.now _
    refine Ev.bind put ?_
    rw [w64 (by omega) (by omega)]
    refine Ev_cast (ih (i + 1) _ (by omega) (by omega) (by rw [List.length_append]; omega)) ?_
    simp [putAll]
theorem spec_l4Bytes_ev (c s mn mx : Int) (h : List Int) (f : Bool) (hl : h.length ≤ 100000) (hs : smallOk ([c, s, mn, mx] ++ h)) : Ev (fun k => spec_l4Bytes.f k c s mn mx h f) (aggB c s mn mx h f) := by
  unfold spec_l4Bytes.f
  simp only [Option.bind_some]
  have go : ∀ b : Int, Ev (fun k => spec_l4Bytes.j0 k [b] c s mn mx h f) (b :: putAll ([c, s, mn, mx] ++ h)) := by
    intro b
    refine Ev_succ ?_
    simp only [spec_l4Bytes.j0, Option.bind_some]
    simp only [if_pos (show ([c, s, mn, mx] : List Int).length + h.length < 17592186044416 by simp; omega)]
    have := spec_l4Bytes_l0 ([c, s, mn, mx] ++ h) hs (by simp; omega) ([c, s, mn, mx] ++ h).length 0 [b] (by omega) (by omega) (by simp; omega)
    simpa using this
  cases f with
  | true =>
    simp only [if_true, if_pos (show (0 : Int) < (([0] : List Int).length : Int) by simp)]
    exact go 1
  | false =>
    simp only [Bool.false_eq_true, if_false]
    exact go 0
theorem impl_aggBytes_l0 (l : List Int) (hs : smallOk l) (hl : l.length ≤ 1000000) : ∀ (d i : Nat) (acc : List Int), l.length - i = d → i ≤ l.length → acc.length + 10 * d ≤ 100000000 → Ev (fun k => impl_aggBytes.l0 k acc l (l.length : Int) (i : Int)) (acc ++ putAll (l.drop i)) := by
  intro d
  induction d with
  | zero =>
    intro i acc hd hi ha
    refine Ev_succ ?_
    simp only [impl_aggBytes.l0]
    simp only [if_neg (show ¬ (i : Int) < (l.length : Int) by omega)]
    rw [List.drop_eq_nil_of_le (by omega)]
    exact Ev_cast (Ev.now _) (by simp [putAll])
  | succ d ih =>
    intro i acc hd hi ha
    refine Ev_succ ?_
    simp only [impl_aggBytes.l0]
    simp only [if_pos (show (i : Int) < (l.length : Int) by omega), if_pos (show 0 ≤ (i : Int) by omega)]
    rw [rd_lt (by omega), drop_cons (l := l) (i := i) (by omega)]
    have hx := hs (l[i]'(by omega)) (List.getElem_mem _)
    generalize l[i]'(by omega) = x at hx ⊢
    have hz := zig_le hx
    have hp := putVar_length_64 (n := zig x) (by omega)
    obtain ⟨z1, z2⟩ := zig_wrap hx
    rw [w64 (n := (i : Int) + 1) (by omega) (by omega)]
    have nx := ih (i + 1) (acc ++ putVar (zig x)) (by omega) (by omega) (by rw [List.length_append]; omega)
    by_cases hn : x < 0
    · simp only [if_pos hn, z1 hn]
      refine Ev.bind (impl_PutVar_ev _ (by omega)) ?_
      simp only [if_pos (show acc.length + (putVar (zig x)).length < 140737488355328 by omega)]
      exact Ev_cast nx (by simp [putAll])
    · simp only [if_neg hn, z2 hn]
      refine Ev.bind (impl_PutVar_ev _ (by omega)) ?_
      simp only [if_pos (show acc.length + (putVar (zig x)).length < 140737488355328 by omega)]
      exact Ev_cast nx (by simp [putAll])
theorem impl_aggBytes_ev (c s mn mx : Int) (h : List Int) (f : Bool) (hl : h.length ≤ 100000) (hs : smallOk ([c, s, mn, mx] ++ h)) : Ev (fun k => impl_aggBytes.f k c s mn mx h f) (aggB c s mn mx h f) := by
  unfold impl_aggBytes.f
  simp only [Option.bind_some]
  have go : ∀ b : Int, Ev (fun k => impl_aggBytes.j0 k [b] c s mn mx h f) (b :: putAll ([c, s, mn, mx] ++ h)) := by
    intro b
    refine Ev_succ ?_
    simp only [impl_aggBytes.j0]
    refine Ev.bind (a := [c, s, mn, mx] ++ h) (Ev_some ?_) ?_
    · unfold impl_Agg_numbers.f
      simp only [Option.bind_some]
      rw [if_pos (by simp; omega)]
    have := impl_aggBytes_l0 ([c, s, mn, mx] ++ h) hs (by simp; omega) ([c, s, mn, mx] ++ h).length 0 [b] (by omega) (by omega) (by simp; omega)
    simpa using this
  cases f with
  | true =>
    simp only [if_true, if_pos (show (0 : Int) < (([0] : List Int).length : Int) by simp)]
    exact go 1
  | false =>
    simp only [Bool.false_eq_true, if_false]
    exact go 0
def aggBytesR (c s mn mx : Int) (h : List Int) (f : Bool) : List Int × Bool := if goodAgg c s mn mx h f then (aggB c s mn mx h f, true) else ([], false)
theorem aggBytesR_length (c s mn mx : Int) (h : List Int) (f : Bool) : (aggBytesR c s mn mx h f).1.length ≤ 121 := by
  unfold aggBytesR
  by_cases hg : goodAgg c s mn mx h f
  · rw [if_pos hg]
    have := aggB_length c s mn mx h f (goodAgg_small hg)
    have := hg.2.1
    simp only
    omega
  · rw [if_neg hg]; simp
theorem spec_AggBytes_ev (c s mn mx : Int) (h : List Int) (f : Bool) : Ev (fun k => spec_AggBytes.f k c s mn mx h f) (aggBytesR c s mn mx h f) := by
  unfold spec_AggBytes.f aggBytesR
  refine Ev.bind (spec_GoodAgg_ev c s mn mx h f) ?_
  by_cases hg : goodAgg c s mn mx h f
  · rw [decide_eq_true hg, if_pos hg]
    simp only [if_true]
    exact Ev.bind (spec_l4Bytes_ev c s mn mx h f (by have := hg.2.1; omega) (goodAgg_small hg)) (Ev.now _)
  · rw [decide_eq_false hg, if_neg hg]
    simp only [Bool.false_eq_true, if_false]
    exact Ev.now _
theorem impl_AggBytes_ev (c s mn mx : Int) (h : List Int) (f : Bool) : Ev (fun k => impl_AggBytes.f k c s mn mx h f) (aggBytesR c s mn mx h f) := by
  unfold impl_AggBytes.f aggBytesR
  refine Ev.bind (impl_GoodAgg_ev c s mn mx h f) ?_
  by_cases hg : goodAgg c s mn mx h f
  · rw [decide_eq_true hg, if_pos hg]
    simp only [if_true]
    exact Ev.bind (impl_aggBytes_ev c s mn mx h f (by have := hg.2.1; omega) (goodAgg_small hg)) (Ev.now _)
  · rw [decide_eq_false hg, if_neg hg]
    simp only [Bool.false_eq_true, if_false]
    exact Ev.now _
theorem FnExactAggBytes : laws_FnExactAggBytes.Pure := by
  intro c s mn mx h f h1 h2 h3 h4 h5
  have hl : h.length ≤ 9223372036854775807 := by have := h5.1; unfold maxLen at this; omega
  refine Ev.rounds ?_
  unfold laws_FnExactAggBytes.f
  obtain ⟨z, hz, hz2⟩ := szAgg_eq c s mn mx h f hl
  refine Ev.bind (Ev_some hz) ?_
  by_cases hh : z < 0
  · simp only [if_pos hh]; exact Ev.now _
  have hl2 : h.length ≤ 1048576 := by omega
  have hr := aggBytesR_length c s mn mx h f
  simp only [if_neg hh]
  refine Ev.bind (toAgg_ev c s mn mx h f hl2) ?_
  refine Ev.bind (spec_AggBytes_ev c s mn mx h f) ?_
  refine Ev.bind (toAgg_ev c s mn mx h f hl2) ?_
  refine Ev.bind (impl_AggBytes_ev c s mn mx h f) ?_
  refine Ev.bind (eqByteS_same _ _ (by omega) rfl) ?_
  simp only [if_true, bne_self_eq_false]
  refine Ev_succ ?_
  simp only [laws_FnExactAggBytes.j0, Bool.false_eq_true, if_false]
  refine Ev.bind (toAgg_ev c s mn mx h f hl2) ?_
  refine Ev.bind (eqAgg_same c s mn mx h f hl2) ?_
  simp only [if_true]
  refine Ev.bind (markAgg_ev c s mn mx h f hl2) ?_
  simp only [if_neg (show ¬ (1 + (h.length : Int) < 0) by omega)]
  refine Ev.bind (eqByteS_same _ _ (by omega) rfl) ?_
  simp only [if_true, bne_self_eq_false]
  refine Ev_succ ?_
  simp only [laws_FnExactAggBytes.j1, Bool.false_eq_true, if_false]
  refine Ev.bind (markByteS_ev _ 1 (by omega) (by omega) (by omega)) ?_
  refine Ev.bind (heldByteS_ev 1 _ (by omega) (by omega) (by omega)) ?_
  simp only [if_neg (show ¬ (1 + ((aggBytesR c s mn mx h f).1.length : Int) < 0) by omega), if_true]
  refine Ev.bind (toAgg_ev c s mn mx h f hl2) ?_
  refine Ev.bind (impl_AggBytes_ev c s mn mx h f) ?_
  refine Ev.bind (eqByteS_same _ _ (by omega) rfl) ?_
  simp only [if_true, bne_self_eq_false]
  refine Ev_succ ?_
  simp only [laws_FnExactAggBytes.j2, Bool.false_eq_true, if_false]
  refine Ev.bind (heldByteS_ev 1 _ (by omega) (by omega) (by omega)) ?_
  simp only [if_neg (show ¬ (1 + ((aggBytesR c s mn mx h f).1.length : Int) < 0) by omega), if_true]
  exact Ev.now _
end Go.Proofs.Ytolpkckaijeahaa.Pure
