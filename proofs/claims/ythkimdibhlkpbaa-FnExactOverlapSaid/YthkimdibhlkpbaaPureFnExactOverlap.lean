/- The law FnExactOverlap answers true, for all rows of entries. -/
import Derived.Test.YthkimdibhlkpbaaPFnExactOverlapx11
set_option linter.unusedVariables false
set_option linter.unusedSimpArgs false
namespace Go.Proofs.Ythkimdibhlkpbaa.Pure
open Go.RowKit Go.Proofs.Ythkimdibhlkpbaa.PFnExactOverlap Go.Proofs.YthkimdibhlkpbaaW Go.Proofs.YthkimdibhlkpbaaW.PrintWords Go.Proofs.YthkimdibhlkpbaaW.PrintLast Go.Proofs.YthkimdibhlkpbaaW.PrintMore
/-! ### base: rounds, numbers -/
theorem Ev_succ {α : Type} {g : Nat → Option α} {r : α} (h : Ev (fun k => g (k + 1)) r) : Ev g r := Ev.step (fun _ => rfl) h
theorem Ev_some {α : Type} {o : Option α} {r : α} (h : o = some r) : Ev (fun _ => o) r := ⟨0, fun _ _ => h⟩
theorem Ev_cast {α : Type} {g : Nat → Option α} {r q : α} (h : Ev g r) (e : r = q) : Ev g q := e ▸ h
theorem w64 {n : Int} (h : -9223372036854775808 ≤ n) (h' : n ≤ 9223372036854775807) : wrap64 n = n := by unfold wrap64; omega
theorem wf_i64 {n : Int} (h : (Lit.int .i64 n).wf = true) : -9223372036854775808 ≤ n ∧ n ≤ 9223372036854775807 := by
  simp only [Lit.wf, IntKind.min, IntKind.max, IntKind.signed, IntKind.bits, Bool.and_eq_true, decide_eq_true_eq, if_true] at h
  omega
theorem wf_u64 {n : Int} (h : (Lit.int .u64 n).wf = true) : 0 ≤ n ∧ n ≤ 18446744073709551615 := by
  simp only [Lit.wf, IntKind.min, IntKind.max, IntKind.signed, IntKind.bits, Bool.and_eq_true, decide_eq_true_eq, if_true] at h
  simp at h
  omega
theorem wf_u8 {n : Int} (h : (Lit.int .u8 n).wf = true) : 0 ≤ n ∧ n ≤ 255 := by
  simp only [Lit.wf, IntKind.min, IntKind.max, IntKind.signed, IntKind.bits, Bool.and_eq_true, decide_eq_true_eq, if_true] at h
  simp at h
  omega
theorem wrap_u64 (n : Int) : IntKind.u64.wrap n = n % 18446744073709551616 := by simp [IntKind.wrap, IntKind.bits, IntKind.signed]
theorem wrap_u32 (n : Int) : IntKind.u32.wrap n = n % 4294967296 := by simp [IntKind.wrap, IntKind.bits, IntKind.signed]
/-- A list of bytes. -/
def Bytes (l : List Int) : Prop := ∀ x ∈ l, 0 ≤ x ∧ x ≤ 255
theorem Bytes.wf {l : List Int} (h : ∀ x ∈ l, (Lit.int .u8 x).wf = true) : Bytes l := fun x hx => wf_u8 (h x hx)
theorem Bytes.nil : Bytes [] := fun x hx => by cases hx
theorem Bytes.app {a b : List Int} (h : Bytes a) (k : Bytes b) : Bytes (a ++ b) := fun x hx => by
  rcases List.mem_append.1 hx with h' | h'
  · exact h x h'
  · exact k x h'
theorem Bytes.one {x : Int} (h : 0 ≤ x) (h' : x ≤ 255) : Bytes [x] := fun y hy => (List.mem_singleton.1 hy) ▸ ⟨h, h'⟩
theorem Bytes.sub {a b : List Int} (h : Bytes a) (k : ∀ x ∈ b, x ∈ a) : Bytes b := fun x hx => h x (k x hx)
theorem Bytes.take {a : List Int} (h : Bytes a) (n : Nat) : Bytes (a.take n) := h.sub fun _ hx => List.mem_of_mem_take hx
theorem Bytes.drop {a : List Int} (h : Bytes a) (n : Nat) : Bytes (a.drop n) := h.sub fun _ hx => List.mem_of_mem_drop hx
theorem rd_lt {l : List Int} {i : Nat} (h : i < l.length) : rd l (i : Int) = l[i] := by simp [rd, h]
theorem Bytes.rd {l : List Int} (h : Bytes l) (i : Int) : 0 ≤ rd l i ∧ rd l i ≤ 255 := by
  unfold PrintWords.rd
  by_cases hi : i.toNat < l.length
  · rw [List.getD_eq_getElem?_getD, List.getElem?_eq_getElem hi]; exact h _ (List.getElem_mem hi)
  · rw [List.getD_eq_getElem?_getD, List.getElem?_eq_none (by omega)]; simp
theorem drop_cons {α : Type} {l : List α} {i : Nat} (h : i < l.length) : l.drop i = l[i] :: l.drop (i + 1) := List.drop_eq_getElem_cons h
theorem within_eq (a b c : Int) : impl_within.f a b c = some (decide (b ≤ a ∧ a ≤ c)) := by
  unfold impl_within.f
  by_cases h : a ≥ b
  · rw [if_pos h]; simp; intro; omega
  · rw [if_neg h]; simp; intro; omega
theorem l1In_eq (a b c : Int) : spec_l1In.f a b c = some (decide (b ≤ a ∧ a ≤ c)) := by
  unfold spec_l1In.f
  by_cases h : a ≥ b
  · rw [if_pos h]; simp; intro; omega
  · rw [if_neg h]; simp; intro; omega
theorem l4Value_eq (v : Int) : spec_l4Value.f v = some (decide (-1000000000 ≤ v ∧ v ≤ 1000000000)) := by
  unfold spec_l4Value.f
  rw [l1In_eq]; rfl
theorem isValue_eq (v : Int) : impl_isValue.f v = some (decide (-1000000000 ≤ v ∧ v ≤ 1000000000)) := by
  unfold impl_isValue.f
  rw [within_eq]; rfl
/-! ### the laws' own words on bytes -/
theorem eqIntS_l0 (a b : List Int) (hl : a.length = b.length) (hb : a.length ≤ 4611686018427387904) :
    ∀ (d i : Nat), a.length - i = d → i ≤ a.length → Ev (fun k => laws_eqIntS.l0 k a b (i : Int)) (decide (a.drop i = b.drop i)) := by
  intro d
  induction d with
  | zero =>
    intro i hd hi
    refine Ev_succ ?_
    simp only [laws_eqIntS.l0]
    simp only [if_neg (show ¬ (i : Int) < (a.length : Int) by omega)]
    exact Ev_cast (Ev.now _) (by rw [List.drop_eq_nil_of_le (by omega), List.drop_eq_nil_of_le (by omega)]; simp)
  | succ d ih =>
    intro i hd hi
    refine Ev_succ ?_
    simp only [laws_eqIntS.l0]
    simp only [if_pos (show (i : Int) < (a.length : Int) by omega), if_pos (show 0 ≤ (i : Int) by omega), if_pos (show (i : Int) < (b.length : Int) by omega)]
    rw [rd_lt (by omega), rd_lt (by omega), w64 (by omega) (by omega), drop_cons (l := a) (by omega), drop_cons (l := b) (i := i) (by omega)]
    by_cases e : a[i]'(by omega) = b[i]'(by omega)
    · simp only [if_pos e]
      exact Ev_cast (ih (i + 1) (by omega) (by omega)) (decide_eq_decide.2 (by rw [List.cons.injEq]; exact ⟨fun h => ⟨e, h⟩, fun h => h.2⟩))
    · simp only [if_neg e]
      exact Ev_cast (Ev.now _) (Eq.symm (decide_eq_false (by rw [List.cons.injEq]; exact fun h => e h.1)))
theorem eqIntS_ev (a b : List Int) (ha : a.length ≤ 4611686018427387904) : Ev (fun k => laws_eqIntS.f k a b) (decide (a = b)) := by
  unfold laws_eqIntS.f
  by_cases h : a.length = b.length
  · simp only [if_pos (show (a.length : Int) = (b.length : Int) by omega)]
    exact eqIntS_l0 a b h ha a.length 0 (by omega) (by omega)
  · simp only [if_neg (show ¬ (a.length : Int) = (b.length : Int) by omega)]
    exact Ev_cast (Ev.now _) (by simp; intro e; exact h (by rw [e]))
theorem eqIntS_same (a b : List Int) (ha : a.length ≤ 4611686018427387904) (e : a = b) : Ev (fun k => laws_eqIntS.f k a b) true := Ev_cast (eqIntS_ev a b ha) (by simp [e])
theorem toIntS_l0 (l : List Int) : ∀ (d i : Nat) (o : List Int), l.length - i = d → i ≤ l.length → l.length ≤ 1152921504606846976 → o.length = l.length → o.take i = l.take i →
    Ev (fun k => laws_toIntS.l0 k l o (i : Int)) l := by
  intro d
  induction d with
  | zero =>
    intro i o hd hi hl ho ht
    refine Ev_succ ?_
    simp only [laws_toIntS.l0]
    simp only [if_neg (show ¬ (i : Int) < (l.length : Int) by omega)]
    exact Ev_cast (Ev.now _) (by rw [List.take_of_length_le (by omega), List.take_of_length_le (by omega)] at ht; exact ht)
  | succ d ih =>
    intro i o hd hi hl ho ht
    refine Ev_succ ?_
    simp only [laws_toIntS.l0]
    simp only [if_pos (show (i : Int) < (l.length : Int) by omega), if_pos (show 0 ≤ (i : Int) by omega), if_pos (show (i : Int) < (o.length : Int) by omega)]
    rw [rd_lt (by omega), w64 (by omega) (by omega)]
    refine ih (i + 1) _ (by omega) (by omega) hl (by simpa using ho) ?_
    apply List.ext_getElem?
    intro j
    rw [List.getElem?_take, List.getElem?_take]
    by_cases h1 : j < i
    · have := congrArg (fun x => x[j]?) ht
      simp only [List.getElem?_take, if_pos h1] at this
      rw [if_pos (by omega), if_pos (by omega), List.getElem?_set]
      simp only [Int.toNat_natCast]
      rw [if_neg (by omega), this]
    · by_cases h2 : j = i
      · subst h2
        rw [if_pos (by omega), if_pos (by omega)]
        simp [show j < l.length by omega, show j < o.length by omega]
      · rw [if_neg (by omega), if_neg (by omega)]
theorem toIntS_ev (l : List Int) (hl : l.length ≤ 35184372088832) : Ev (fun k => laws_toIntS.f k l) l := by
  unfold laws_toIntS.f
  simp only [if_pos (show 0 ≤ (l.length : Int) by omega), Int.toNat_natCast, if_pos hl]
  exact toIntS_l0 l l.length 0 _ (by omega) (by omega) (by omega) (by simp) (by simp)
theorem szIntS_eq (l : List Int) (a : Int) (h0 : 0 ≤ a) (h1 : a ≤ 1048576) (hl : l.length ≤ 9223372036854775807) : laws_szIntS.f l a = some (if a - l.length < 0 then -1 else a - l.length) := by
  unfold laws_szIntS.f
  rw [w64 (by omega) (by omega)]
  by_cases h : a - (l.length : Int) < 0
  · simp only [if_pos h]
  · simp only [if_neg h]
/-! ### sums -/
def sum8 : List Int → Int
  | [] => 0
  | x :: t => x + sum8 t
def histOk (h : List Int) : Prop := ∀ x ∈ h, 0 ≤ x ∧ x ≤ 1000000000
instance (h : List Int) : Decidable (histOk h) := inferInstanceAs (Decidable (∀ x ∈ h, 0 ≤ x ∧ x ≤ 1000000000))
theorem histOk_cons (a : Int) (t : List Int) : histOk (a :: t) ↔ (0 ≤ a ∧ a ≤ 1000000000) ∧ histOk t := by
  unfold histOk; simp
def valueOk (v : Int) : Prop := -1000000000 ≤ v ∧ v ≤ 1000000000
instance (v : Int) : Decidable (valueOk v) := inferInstanceAs (Decidable (_ ∧ _))
/-- What is asked behind the histogram; z: all of it together. -/
def aggTail (c s mn mx : Int) (f : Bool) (z : Int) : Prop :=
  (c = 0 ∧ z = 0 ∧ mn = 0 ∧ mx = 0 ∧ s = 0 ∧ f = false) ∨
  (c ≠ 0 ∧ valueOk mn ∧ valueOk mx ∧ mn ≤ mx ∧ ((f = true ∧ s = 0) ∨ (f = false ∧ z = c ∧ -1000000000 * c ≤ s ∧ s ≤ 1000000000 * c)))
def goodAgg (c s mn mx : Int) (h : List Int) (f : Bool) : Prop := (0 ≤ c ∧ c ≤ 1000000000) ∧ h.length = 8 ∧ histOk h ∧ aggTail c s mn mx f (sum8 h)
instance (c s mn mx : Int) (f : Bool) (z : Int) : Decidable (aggTail c s mn mx f z) := inferInstanceAs (Decidable (_ ∨ _))
instance (c s mn mx : Int) (h : List Int) (f : Bool) : Decidable (goodAgg c s mn mx h f) := inferInstanceAs (Decidable (_ ∧ _))
theorem aggTail_pos {c s mn mx : Int} {f : Bool} {z : Int} (e0 : c ≠ 0) : aggTail c s mn mx f z ↔ (valueOk mn ∧ valueOk mx ∧ mn ≤ mx ∧ ((f = true ∧ s = 0) ∨ (f = false ∧ z = c ∧ -1000000000 * c ≤ s ∧ s ≤ 1000000000 * c))) := by
  constructor
  · intro h
    rcases h with h | h
    · exact absurd h.1 e0
    · exact h.2
  · intro h
    exact .inr ⟨e0, h⟩
theorem szAgg_eq (c s mn mx : Int) (h : List Int) (f : Bool) (hl : h.length ≤ 9223372036854775807) : ∃ z, laws_szAgg.f c s mn mx h f 1048576 = some z ∧ (z < 0 ∨ h.length ≤ 1048576) := by
  unfold laws_szAgg.f
  rw [szIntS_eq h 1048576 (by omega) (by omega) hl]
  simp only [Option.bind_some]
  by_cases hh : (1048576 : Int) - h.length < 0
  · exact ⟨-1, by rw [if_pos hh]; rfl, .inl (by omega)⟩
  · exact ⟨1048576 - h.length, by rw [if_neg hh, if_neg hh], .inr (by omega)⟩
theorem toAgg_ev (c s mn mx : Int) (h : List Int) (f : Bool) (hl : h.length ≤ 1048576) : Ev (fun k => laws_toAgg.f k c s mn mx h f) (c, s, mn, mx, h, f) := by
  unfold laws_toAgg.f
  exact Ev.bind (toIntS_ev h (by omega)) (Ev.now _)
theorem eqAgg_same (c s mn mx : Int) (h : List Int) (f : Bool) (hl : h.length ≤ 1048576) : Ev (fun k => laws_eqAgg.f k c s mn mx h f c s mn mx h f) true := by
  unfold laws_eqAgg.f
  simp only [if_true, bne_self_eq_false, Bool.false_eq_true, if_false]
  exact Ev.bind (eqIntS_same h h (by omega) rfl) (Ev_cast (by simp only [if_true]; exact Ev.now _) rfl)
theorem spec_GoodAgg_l0 (c s mn mx : Int) (h : List Int) (f : Bool) (h8 : h.length = 8) (R : Int → Bool) (fin : ∀ z : Int, 0 ≤ z → z ≤ 8000000000 → Ev (fun k => spec_GoodAgg.l0 k z h (h.length : Int) (8 : Int) c s mn mx h f) (R z)) :
    ∀ (d i : Nat) (z : Int), 8 - i = d → i ≤ 8 → 0 ≤ z → z ≤ 1000000000 * i → Ev (fun k => spec_GoodAgg.l0 k z h (h.length : Int) (i : Int) c s mn mx h f) (if histOk (h.drop i) then R (z + sum8 (h.drop i)) else false) := by
  intro d
  induction d with
  | zero =>
    intro i z hd hi h0 h1
    obtain rfl : i = 8 := by omega
    rw [List.drop_eq_nil_of_le (by omega), if_pos (show histOk [] from fun x hx => by cases hx)]
    simp only [sum8, Int.add_zero]
    exact fin z h0 (by omega)
  | succ d ih =>
    intro i z hd hi h0 h1
    refine Ev_succ ?_
    simp only [spec_GoodAgg.l0]
    simp only [if_pos (show (i : Int) < (h.length : Int) by omega), if_pos (show 0 ≤ (i : Int) by omega)]
    rw [rd_lt (by omega), drop_cons (l := h) (i := i) (by omega)]
    refine Ev.bind (Ev_some (l1In_eq _ _ _)) ?_
    by_cases hx : 0 ≤ h[i]'(by omega) ∧ h[i]'(by omega) ≤ 1000000000
    · rw [decide_eq_true hx]
      simp only [if_true]
      rw [w64 (n := (i : Int) + 1) (by omega) (by omega), w64 (by omega) (by omega)]
      refine Ev_cast (ih (i + 1) _ (by omega) (by omega) (by omega) (by omega)) ?_
      by_cases hr : histOk (h.drop (i + 1))
      · rw [if_pos hr, if_pos ((histOk_cons _ _).2 ⟨hx, hr⟩)]
        simp only [sum8]
        rw [Int.add_assoc]
      · rw [if_neg hr, if_neg (fun hh => hr ((histOk_cons _ _).1 hh).2)]
    · rw [decide_eq_false hx, if_neg (fun hh => hx ((histOk_cons _ _).1 hh).1)]
      simp only [Bool.false_eq_true, if_false]
      exact Ev.now _
theorem spec_GoodAgg_fin (c s mn mx : Int) (h : List Int) (f : Bool) (h8 : h.length = 8) (hc : 0 ≤ c ∧ c ≤ 1000000000) (z : Int) (h0 : 0 ≤ z) (h1 : z ≤ 8000000000) :
    Ev (fun k => spec_GoodAgg.l0 k z h (h.length : Int) (8 : Int) c s mn mx h f) (decide (aggTail c s mn mx f z)) := by
  refine Ev_succ ?_
  simp only [spec_GoodAgg.l0]
  simp only [if_neg (show ¬ (8 : Int) < (h.length : Int) by omega)]
  by_cases e0 : c = 0
  · simp only [if_pos e0]
    by_cases e1 : z = 0
    · simp only [if_pos e1]
      by_cases e2 : mn = 0
      · simp only [if_pos e2]
        by_cases e3 : mx = 0
        · simp only [if_pos e3]
          by_cases e4 : s = 0
          · simp only [if_pos e4]
            refine Ev_cast (Ev.now _) ?_
            cases f <;> simp [aggTail, e0, e1, e2, e3, e4]
          · simp only [if_neg e4]
            exact Ev_cast (Ev.now _) (by simp [aggTail, e0, e4])
        · simp only [if_neg e3]
          exact Ev_cast (Ev.now _) (by simp [aggTail, e0, e3])
      · simp only [if_neg e2]
        exact Ev_cast (Ev.now _) (by simp [aggTail, e0, e2])
    · simp only [if_neg e1]
      exact Ev_cast (Ev.now _) (by simp [aggTail, e0, e1])
  · simp only [if_neg e0]
    have bad : ∀ P : Prop, ¬ P → (aggTail c s mn mx f z → P) → Ev (fun k => spec_GoodAgg.j2 k z true c s mn mx h f) (decide (aggTail c s mn mx f z)) := by
      intro P hP hh
      refine Ev_succ ?_
      simp only [spec_GoodAgg.j2, if_true]
      exact Ev_cast (Ev.now _) (decide_eq_false (fun ht => hP (hh ht))).symm
    refine Ev.bind (Ev_some (l4Value_eq _)) ?_
    by_cases v1 : -1000000000 ≤ mn ∧ mn ≤ 1000000000
    · rw [decide_eq_true v1]
      simp only [if_true]
      refine Ev.bind (Ev_some (l4Value_eq _)) ?_
      by_cases v2 : -1000000000 ≤ mx ∧ mx ≤ 1000000000
      · rw [decide_eq_true v2]
        simp only [if_true]
        by_cases v3 : mn > mx
        · rw [decide_eq_true v3]
          exact bad (mn ≤ mx) (by omega) (fun hh => ((aggTail_pos e0).1 hh).2.2.1)
        · rw [decide_eq_false v3]
          refine Ev_succ ?_
          simp only [spec_GoodAgg.j2, Bool.false_eq_true, if_false]
          cases f with
          | true =>
            simp only [if_true]
            refine Ev_cast (Ev.now _) ?_
            rw [Bool.eq_iff_iff]
            simp only [beq_iff_eq, decide_eq_true_eq]
            rw [aggTail_pos e0]
            constructor
            · intro hs
              exact ⟨v1, v2, by omega, .inl ⟨rfl, hs⟩⟩
            · intro hh
              rcases hh.2.2.2 with hz | hz
              · exact hz.2
              · cases hz.1
          | false =>
            simp only [Bool.false_eq_true, if_false]
            by_cases e5 : z = c
            · simp only [if_pos e5]
              refine Ev.bind (Ev_some (l1In_eq _ _ _)) ?_
              rw [w64 (by omega) (by omega), w64 (by omega) (by omega)]
              refine Ev_cast (Ev.now _) ?_
              rw [decide_eq_decide, aggTail_pos e0]
              constructor
              · intro hs
                exact ⟨v1, v2, by omega, .inr ⟨rfl, e5, hs.1, hs.2⟩⟩
              · intro hh
                rcases hh.2.2.2 with hz | hz
                · cases hz.1
                · exact hz.2.2
            · simp only [if_neg e5]
              refine Ev_cast (Ev.now _) (decide_eq_false ?_).symm
              intro hh
              rcases ((aggTail_pos e0).1 hh).2.2.2 with hz | hz
              · cases hz.1
              · exact e5 hz.2.1
      · rw [decide_eq_false v2]
        simp only [Bool.false_eq_true, if_false]
        exact bad (valueOk mx) v2 (fun hh => ((aggTail_pos e0).1 hh).2.1)
    · rw [decide_eq_false v1]
      simp only [Bool.false_eq_true, if_false]
      exact bad (valueOk mn) v1 (fun hh => ((aggTail_pos e0).1 hh).1)
theorem spec_GoodAgg_ev (c s mn mx : Int) (h : List Int) (f : Bool) : Ev (fun k => spec_GoodAgg.f k c s mn mx h f) (decide (goodAgg c s mn mx h f)) := by
  unfold spec_GoodAgg.f
  have bad : ¬ goodAgg c s mn mx h f → Ev (fun k => spec_GoodAgg.j0 k true c s mn mx h f) (decide (goodAgg c s mn mx h f)) := by
    intro hn
    refine Ev_succ ?_
    simp only [spec_GoodAgg.j0, if_true]
    exact Ev_cast (Ev.now _) (decide_eq_false hn).symm
  refine Ev.bind (Ev_some (l1In_eq _ _ _)) ?_
  by_cases hc : 0 ≤ c ∧ c ≤ 1000000000
  · rw [decide_eq_true hc]
    simp only [if_true]
    by_cases h8 : h.length = 8
    · rw [show (((h.length : Int)) != 8) = false by simp [h8]]
      refine Ev_succ ?_
      simp only [spec_GoodAgg.j0, Bool.false_eq_true, if_false]
      refine Ev_cast (spec_GoodAgg_l0 c s mn mx h f h8 _ (fun z h0 h1 => spec_GoodAgg_fin c s mn mx h f h8 hc z h0 h1) 8 0 0 (by omega) (by omega) (by omega) (by omega)) ?_
      rw [List.drop_zero, Int.zero_add]
      by_cases hh : histOk h
      · rw [if_pos hh, decide_eq_decide]
        exact ⟨fun ht => ⟨hc, h8, hh, ht⟩, fun hg => hg.2.2.2⟩
      · rw [if_neg hh]
        exact (decide_eq_false (fun hg => hh hg.2.2.1)).symm
    · rw [show (((h.length : Int)) != 8) = true by simp; omega]
      exact bad (fun hg => h8 hg.2.1)
  · rw [decide_eq_false hc]
    simp only [Bool.false_eq_true, if_false]
    exact bad (fun hg => hc hg.1)
theorem impl_GoodAgg_l0 (c s mn mx : Int) (h : List Int) (f : Bool) (h8 : h.length = 8) (R : Int → Bool) (fin : ∀ z : Int, 0 ≤ z → z ≤ 8000000000 → Ev (fun k => impl_GoodAgg.l0 k z h (h.length : Int) (8 : Int) c s mn mx h f) (R z)) :
    ∀ (d i : Nat) (z : Int), 8 - i = d → i ≤ 8 → 0 ≤ z → z ≤ 1000000000 * i → Ev (fun k => impl_GoodAgg.l0 k z h (h.length : Int) (i : Int) c s mn mx h f) (if histOk (h.drop i) then R (z + sum8 (h.drop i)) else false) := by
  intro d
  induction d with
  | zero =>
    intro i z hd hi h0 h1
    obtain rfl : i = 8 := by omega
    rw [List.drop_eq_nil_of_le (by omega), if_pos (show histOk [] from fun x hx => by cases hx)]
    simp only [sum8, Int.add_zero]
    exact fin z h0 (by omega)
  | succ d ih =>
    intro i z hd hi h0 h1
    refine Ev_succ ?_
    simp only [impl_GoodAgg.l0]
    simp only [if_pos (show (i : Int) < (h.length : Int) by omega), if_pos (show 0 ≤ (i : Int) by omega)]
    rw [rd_lt (by omega), drop_cons (l := h) (i := i) (by omega)]
    refine Ev.bind (Ev_some (within_eq _ _ _)) ?_
    by_cases hx : 0 ≤ h[i]'(by omega) ∧ h[i]'(by omega) ≤ 1000000000
    · rw [decide_eq_true hx]
      simp only [if_true]
      rw [w64 (n := (i : Int) + 1) (by omega) (by omega), w64 (by omega) (by omega)]
      refine Ev_cast (ih (i + 1) _ (by omega) (by omega) (by omega) (by omega)) ?_
      by_cases hr : histOk (h.drop (i + 1))
      · rw [if_pos hr, if_pos ((histOk_cons _ _).2 ⟨hx, hr⟩)]
        simp only [sum8]
        rw [Int.add_assoc]
      · rw [if_neg hr, if_neg (fun hh => hr ((histOk_cons _ _).1 hh).2)]
    · rw [decide_eq_false hx, if_neg (fun hh => hx ((histOk_cons _ _).1 hh).1)]
      simp only [Bool.false_eq_true, if_false]
      exact Ev.now _
theorem impl_GoodAgg_j3 (c s mn mx : Int) (h : List Int) (f : Bool) (z : Int) (b : Bool) (hb : b = true ↔ ¬ ((f = true ∧ s = 0) ∨ (f = false ∧ z = c ∧ -1000000000 * c ≤ s ∧ s ≤ 1000000000 * c))) :
    Ev (fun k => impl_GoodAgg.j3 k z b c s mn mx h f) (decide (aggTail c s mn mx f z)) := by
  refine Ev_succ ?_
  simp only [impl_GoodAgg.j3]
  cases b with
  | true =>
    simp only [if_true]
    refine Ev_cast (Ev.now _) (decide_eq_false ?_).symm
    have hn := hb.1 rfl
    rintro (hh | hh)
    · exact hn (.inr ⟨hh.2.2.2.2.2, by omega, by omega, by omega⟩)
    · exact hn hh.2.2.2.2
  | false =>
    have hy : (f = true ∧ s = 0) ∨ (f = false ∧ z = c ∧ -1000000000 * c ≤ s ∧ s ≤ 1000000000 * c) := by
      by_cases hy : (f = true ∧ s = 0) ∨ (f = false ∧ z = c ∧ -1000000000 * c ≤ s ∧ s ≤ 1000000000 * c)
      · exact hy
      · exact absurd (hb.2 hy) (by simp)
    simp only [Bool.false_eq_true, if_false]
    by_cases e0 : c = 0
    · simp only [if_pos e0]
      by_cases e2 : mn = 0
      · simp only [if_pos e2]
        by_cases e3 : mx = 0
        · simp only [if_pos e3]
          by_cases e1 : z = 0
          · simp only [if_pos e1]
            refine Ev_cast (Ev.now _) ?_
            rw [Bool.eq_iff_iff, decide_eq_true_eq, Bool.not_eq_true']
            refine ⟨fun hf => .inl ⟨e0, e1, e2, e3, ?_, hf⟩, ?_⟩
            · rcases hy with hy | hy
              · rw [hf] at hy; cases hy.1
              · omega
            · rintro (hh | hh)
              · exact hh.2.2.2.2.2
              · exact absurd e0 hh.1
          · simp only [if_neg e1]
            exact Ev_cast (Ev.now _) (by simp [aggTail, e0, e1])
        · simp only [if_neg e3]
          exact Ev_cast (Ev.now _) (by simp [aggTail, e0, e3])
      · simp only [if_neg e2]
        exact Ev_cast (Ev.now _) (by simp [aggTail, e0, e2])
    · simp only [if_neg e0]
      refine Ev.bind (Ev_some (isValue_eq _)) ?_
      by_cases v1 : -1000000000 ≤ mn ∧ mn ≤ 1000000000
      · rw [decide_eq_true v1]
        simp only [if_true]
        refine Ev.bind (Ev_some (isValue_eq _)) ?_
        by_cases v2 : -1000000000 ≤ mx ∧ mx ≤ 1000000000
        · rw [decide_eq_true v2]
          simp only [if_true]
          refine Ev_cast (Ev.now _) ?_
          rw [decide_eq_decide]
          rw [aggTail_pos e0]
          exact ⟨fun hm => ⟨v1, v2, hm, hy⟩, fun hh => hh.2.2.1⟩
        · rw [decide_eq_false v2]
          simp only [Bool.false_eq_true, if_false]
          exact Ev_cast (Ev.now _) (decide_eq_false (fun hh => v2 ((aggTail_pos e0).1 hh).2.1)).symm
      · rw [decide_eq_false v1]
        simp only [Bool.false_eq_true, if_false]
        exact Ev_cast (Ev.now _) (decide_eq_false (fun hh => v1 ((aggTail_pos e0).1 hh).1)).symm
theorem impl_GoodAgg_j2 (c s mn mx : Int) (h : List Int) (f : Bool) (hc : 0 ≤ c ∧ c ≤ 1000000000) (z : Int) (b : Bool) (hb : b = true ↔ (f = true ∧ s ≠ 0)) :
    Ev (fun k => impl_GoodAgg.j2 k z b c s mn mx h f) (decide (aggTail c s mn mx f z)) := by
  refine Ev_succ ?_
  simp only [impl_GoodAgg.j2]
  cases b with
  | true =>
    simp only [if_true]
    obtain ⟨hf, hs⟩ := hb.1 rfl
    refine Ev_cast (Ev.now _) (decide_eq_false ?_).symm
    rintro (hh | hh)
    · exact hs hh.2.2.2.2.1
    · rcases hh.2.2.2.2 with hz | hz
      · exact hs hz.2
      · rw [hf] at hz; cases hz.1
  | false =>
    have hy : ¬ (f = true ∧ s ≠ 0) := fun hh => by have := hb.2 hh; cases this
    simp only [Bool.false_eq_true, if_false]
    cases f with
    | true =>
      simp only [if_true]
      refine impl_GoodAgg_j3 c s mn mx h true z false ⟨fun hh => (by cases hh), fun hh => ?_⟩
      exact absurd (Or.inl ⟨rfl, Decidable.byContradiction fun hs => hy ⟨rfl, hs⟩⟩) hh
    | false =>
      simp only [Bool.false_eq_true, if_false]
      by_cases e5 : z = c
      · simp only [if_pos e5]
        refine Ev.bind (Ev_some (within_eq _ _ _)) ?_
        rw [w64 (by omega) (by omega), w64 (by omega) (by omega)]
        refine impl_GoodAgg_j3 c s mn mx h false z _ ?_
        rw [Bool.not_eq_true', decide_eq_false_iff_not]
        simp [e5]
      · simp only [if_neg e5]
        refine impl_GoodAgg_j3 c s mn mx h false z true ?_
        simp [e5]
theorem impl_GoodAgg_fin (c s mn mx : Int) (h : List Int) (f : Bool) (h8 : h.length = 8) (hc : 0 ≤ c ∧ c ≤ 1000000000) (z : Int) (h0 : 0 ≤ z) (h1 : z ≤ 8000000000) :
    Ev (fun k => impl_GoodAgg.l0 k z h (h.length : Int) (8 : Int) c s mn mx h f) (decide (aggTail c s mn mx f z)) := by
  refine Ev_succ ?_
  simp only [impl_GoodAgg.l0]
  simp only [if_neg (show ¬ (8 : Int) < (h.length : Int) by omega)]
  cases f with
  | true =>
    simp only [if_true]
    exact impl_GoodAgg_j2 c s mn mx h true hc z _ (by simp)
  | false =>
    simp only [Bool.false_eq_true, if_false]
    exact impl_GoodAgg_j2 c s mn mx h false hc z _ (by simp)
theorem impl_GoodAgg_ev (c s mn mx : Int) (h : List Int) (f : Bool) : Ev (fun k => impl_GoodAgg.f k c s mn mx h f) (decide (goodAgg c s mn mx h f)) := by
  unfold impl_GoodAgg.f
  have bad : ¬ goodAgg c s mn mx h f → Ev (fun k => impl_GoodAgg.j0 k true c s mn mx h f) (decide (goodAgg c s mn mx h f)) := by
    intro hn
    refine Ev_succ ?_
    simp only [impl_GoodAgg.j0, if_true]
    exact Ev_cast (Ev.now _) (decide_eq_false hn).symm
  refine Ev.bind (Ev_some (within_eq _ _ _)) ?_
  by_cases hc : 0 ≤ c ∧ c ≤ 1000000000
  · rw [decide_eq_true hc]
    simp only [if_true]
    by_cases h8 : h.length = 8
    · rw [show (((h.length : Int)) != 8) = false by simp [h8]]
      refine Ev_succ ?_
      simp only [impl_GoodAgg.j0, Bool.false_eq_true, if_false]
      refine Ev_cast (impl_GoodAgg_l0 c s mn mx h f h8 _ (fun z h0 h1 => impl_GoodAgg_fin c s mn mx h f h8 hc z h0 h1) 8 0 0 (by omega) (by omega) (by omega) (by omega)) ?_
      rw [List.drop_zero, Int.zero_add]
      by_cases hh : histOk h
      · rw [if_pos hh, decide_eq_decide]
        exact ⟨fun ht => ⟨hc, h8, hh, ht⟩, fun hg => hg.2.2.2⟩
      · rw [if_neg hh]
        exact (decide_eq_false (fun hg => hh hg.2.2.1)).symm
    · rw [show (((h.length : Int)) != 8) = true by simp; omega]
      exact bad (fun hg => h8 hg.2.1)
  · rw [decide_eq_false hc]
    simp only [Bool.false_eq_true, if_false]
    exact bad (fun hg => hc hg.1)
/-! ### entries -/
def zeroAgg (c s mn mx : Int) (h : List Int) (f : Bool) : Prop := c = 0 ∧ s = 0 ∧ mn = 0 ∧ mx = 0 ∧ h.length = 0 ∧ f = false
instance (c s mn mx : Int) (h : List Int) (f : Bool) : Decidable (zeroAgg c s mn mx h f) := inferInstanceAs (Decidable (_ ∧ _))
def goodEntry (key : ByteArray) (seq kind c s mn mx : Int) (h : List Int) (f : Bool) : Prop :=
  (1 ≤ key.size ∧ key.size ≤ 140) ∧ (1 ≤ seq ∧ seq ≤ 1000000000) ∧ ((kind = 2 ∧ zeroAgg c s mn mx h f) ∨ ((kind = 1 ∨ kind = 3) ∧ goodAgg c s mn mx h f))
instance (key : ByteArray) (seq kind c s mn mx : Int) (h : List Int) (f : Bool) : Decidable (goodEntry key seq kind c s mn mx h f) := inferInstanceAs (Decidable (_ ∧ _))
theorem spec_l5Zero_eq (c s mn mx : Int) (h : List Int) (f : Bool) : spec_l5Zero.f c s mn mx h f = some (decide (zeroAgg c s mn mx h f)) := by
  unfold spec_l5Zero.f zeroAgg
  by_cases e0 : c = 0
  · by_cases e1 : s = 0
    · by_cases e2 : mn = 0
      · by_cases e3 : mx = 0
        · by_cases e4 : h.length = 0
          · cases f <;> simp [e0, e1, e2, e3, e4]
          · rw [if_pos e0, if_pos e1, if_pos e2, if_pos e3, if_neg (by omega)]; simp [e4]
        · simp [e0, e1, e2, e3]
      · simp [e0, e1, e2]
    · simp [e0, e1]
  · simp [e0]
theorem spec_GoodEntry_ev (key : ByteArray) (seq kind c s mn mx : Int) (h : List Int) (f : Bool) : Ev (fun k => spec_GoodEntry.f k key seq kind c s mn mx h f) (decide (goodEntry key seq kind c s mn mx h f)) := by
  unfold spec_GoodEntry.f
  have bad : ¬ goodEntry key seq kind c s mn mx h f → Ev (fun k => spec_GoodEntry.j0 k true key seq kind c s mn mx h f) (decide (goodEntry key seq kind c s mn mx h f)) := by
    intro hn
    refine Ev_succ ?_
    simp only [spec_GoodEntry.j0, if_true]
    exact Ev_cast (Ev.now _) (decide_eq_false hn).symm
  refine Ev.bind (Ev_some (l1In_eq _ _ _)) ?_
  by_cases h1 : 1 ≤ (key.size : Int) ∧ (key.size : Int) ≤ 140
  · rw [decide_eq_true h1]
    simp only [if_true]
    refine Ev.bind (Ev_some (l1In_eq _ _ _)) ?_
    by_cases h2 : 1 ≤ seq ∧ seq ≤ 1000000000
    · rw [decide_eq_true h2, Bool.not_true]
      refine Ev_succ ?_
      simp only [spec_GoodEntry.j0, Bool.false_eq_true, if_false]
      have hk : ∀ b : Bool, (b = true ↔ (kind = 1 ∨ kind = 3)) → Ev (fun k => spec_GoodEntry.j1 k kind b key seq kind c s mn mx h f) (decide (goodEntry key seq kind c s mn mx h f)) := by
        intro b hb
        refine Ev_succ ?_
        simp only [spec_GoodEntry.j1]
        cases b with
        | true =>
          have hk := hb.1 rfl
          simp only [if_true]
          refine Ev.bind (spec_GoodAgg_ev c s mn mx h f) ?_
          refine Ev_cast (Ev.now _) ?_
          rw [decide_eq_decide]
          constructor
          · intro hg
            exact ⟨by omega, h2, .inr ⟨hk, hg⟩⟩
          · intro hg
            rcases hg.2.2 with hz | hz
            · omega
            · exact hz.2
        | false =>
          have hk : ¬ (kind = 1 ∨ kind = 3) := fun hh => by have := hb.2 hh; cases this
          simp only [Bool.false_eq_true, if_false]
          by_cases k2 : kind = 2
          · simp only [if_pos k2]
            refine Ev.bind (Ev_some (spec_l5Zero_eq c s mn mx h f)) ?_
            refine Ev_cast (Ev.now _) ?_
            rw [decide_eq_decide]
            constructor
            · intro hg
              exact ⟨by omega, h2, .inl ⟨k2, hg⟩⟩
            · intro hg
              rcases hg.2.2 with hz | hz
              · exact hz.2
              · exact absurd hz.1 hk
          · simp only [if_neg k2]
            refine Ev_cast (Ev.now _) (decide_eq_false ?_).symm
            intro hg
            rcases hg.2.2 with hz | hz
            · exact k2 hz.1
            · exact hk hz.1
      by_cases k1 : kind = 1
      · simp only [if_pos k1]
        exact hk _ (by simp [k1])
      · simp only [if_neg k1]
        exact hk _ (by simp [k1])
    · rw [decide_eq_false h2, Bool.not_false]
      exact bad (fun hg => h2 hg.2.1)
  · rw [decide_eq_false h1]
    simp only [Bool.false_eq_true, if_false]
    exact bad (fun hg => h1 (by have := hg.1; omega))
theorem impl_Agg_isZero_eq (c s mn mx : Int) (h : List Int) (f : Bool) : impl_Agg_isZero.f c s mn mx h f = some (decide (zeroAgg c s mn mx h f)) := by
  unfold impl_Agg_isZero.f zeroAgg
  by_cases e0 : c = 0
  · by_cases e1 : s = 0
    · by_cases e2 : mn = 0
      · by_cases e3 : mx = 0
        · by_cases e4 : h.length = 0
          · cases f <;> simp [e0, e1, e2, e3, e4]
          · rw [if_pos e0, if_pos e1, if_pos e2, if_pos e3, if_neg (by omega)]; simp [e4]
        · simp [e0, e1, e2, e3]
      · simp [e0, e1, e2]
    · simp [e0, e1]
  · simp [e0]
theorem isKeyText_eq (s : ByteArray) : impl_isKeyText.f s = some (decide (1 ≤ s.size ∧ s.size ≤ 140)) := by
  unfold impl_isKeyText.f
  rw [within_eq, Option.bind_some]
  congr 1
  rw [decide_eq_decide]
  omega
theorem impl_GoodEntry_ev (key : ByteArray) (seq kind c s mn mx : Int) (h : List Int) (f : Bool) : Ev (fun k => impl_GoodEntry.f k key seq kind c s mn mx h f) (decide (goodEntry key seq kind c s mn mx h f)) := by
  unfold impl_GoodEntry.f
  have bad : ¬ goodEntry key seq kind c s mn mx h f → Ev (fun k => impl_GoodEntry.j0 k true key seq kind c s mn mx h f) (decide (goodEntry key seq kind c s mn mx h f)) := by
    intro hn
    refine Ev_succ ?_
    simp only [impl_GoodEntry.j0, if_true]
    exact Ev_cast (Ev.now _) (decide_eq_false hn).symm
  refine Ev.bind (Ev_some (isKeyText_eq _)) ?_
  by_cases h1 : 1 ≤ key.size ∧ key.size ≤ 140
  · rw [decide_eq_true h1]
    simp only [if_true]
    refine Ev.bind (Ev_some (within_eq _ _ _)) ?_
    by_cases h2 : 1 ≤ seq ∧ seq ≤ 1000000000
    · rw [decide_eq_true h2, Bool.not_true]
      refine Ev_succ ?_
      simp only [impl_GoodEntry.j0, Bool.false_eq_true, if_false]
      have agg : (kind = 1 ∨ kind = 3) → Ev (fun k => (impl_GoodAgg.f k c s mn mx h f).bind fun t => some t) (decide (goodEntry key seq kind c s mn mx h f)) := by
        intro hk
        refine Ev.bind (impl_GoodAgg_ev c s mn mx h f) ?_
        refine Ev_cast (Ev.now _) ?_
        rw [decide_eq_decide]
        constructor
        · intro hg
          exact ⟨h1, h2, .inr ⟨hk, hg⟩⟩
        · intro hg
          rcases hg.2.2 with hz | hz
          · omega
          · exact hz.2
      by_cases k2 : kind = 2
      · simp only [if_pos k2]
        refine Ev.bind (Ev_some (impl_Agg_isZero_eq c s mn mx h f)) ?_
        refine Ev_cast (Ev.now _) ?_
        rw [decide_eq_decide]
        constructor
        · intro hg
          exact ⟨h1, h2, .inl ⟨k2, hg⟩⟩
        · intro hg
          rcases hg.2.2 with hz | hz
          · exact hz.2
          · omega
      · simp only [if_neg k2]
        by_cases k1 : kind = 1
        · simp only [if_pos k1]; exact agg (.inl k1)
        · simp only [if_neg k1]
          by_cases k3 : kind = 3
          · simp only [if_pos k3]; exact agg (.inr k3)
          · simp only [if_neg k3]
            refine Ev_cast (Ev.now _) (decide_eq_false ?_).symm
            intro hg
            rcases hg.2.2 with hz | hz
            · exact k2 hz.1
            · rcases hz.1 with hz | hz
              · exact k1 hz
              · exact k3 hz
    · rw [decide_eq_false h2, Bool.not_false]
      exact bad (fun hg => h2 hg.2.1)
  · rw [decide_eq_false h1]
    simp only [Bool.false_eq_true, if_false]
    exact bad (fun hg => h1 hg.1)
/-! ### rows of entries -/
theorem rd55_lt {l : List S55} {i : Nat} (h : i < l.length) : rd_T55 l (i : Int) = l[i] := by simp [rd_T55, h]
theorem rd51_lt {l : List S51} {i : Nat} (h : i < l.length) : rd_T51 l (i : Int) = l[i] := by simp [rd_T51, h]
def toE (x : S55) : S51 := ⟨x.f0, x.f1, x.f2, ⟨x.f3.f0, x.f3.f1, x.f3.f2, x.f3.f3, x.f3.f4, x.f3.f5⟩⟩
theorem szEntry_eq (key : ByteArray) (seq kind c s mn mx : Int) (h : List Int) (f : Bool) (a : Int) (h0 : 0 ≤ a) (h1 : a ≤ 1048576) (hk : key.size ≤ 9223372036854775807) (hl : h.length ≤ 9223372036854775807) :
    ∃ z, laws_szEntry.f key seq kind c s mn mx h f a = some z ∧ (z < 0 ∨ (0 ≤ z ∧ z ≤ a ∧ h.length ≤ 1048576 ∧ key.size ≤ 1048576)) := by
  unfold laws_szEntry.f
  rw [w64 (by omega) (by omega)]
  by_cases hh : a - (key.size : Int) < 0
  · exact ⟨-1, by rw [if_pos hh], .inl (by omega)⟩
  · rw [if_neg hh]
    unfold laws_szAgg.f
    rw [szIntS_eq h (a - key.size) (by omega) (by omega) hl]
    simp only [Option.bind_some]
    by_cases hn : a - (key.size : Int) - h.length < 0
    · exact ⟨-1, by rw [if_pos hn]; rfl, .inl (by omega)⟩
    · refine ⟨a - (key.size : Int) - h.length, ?_, .inr ⟨by omega, by omega, by omega, by omega⟩⟩
      rw [if_neg hn, if_neg hn]
      simp only [Option.bind_some]
      rw [if_neg hn]
theorem szEntryS_gen (l : List S55) (a0 : Int) (ha0 : 0 ≤ a0) (ha1 : a0 ≤ 1048576) (hl : l.length ≤ 9223372036854775807) (hs : ∀ x ∈ l, x.f0.size ≤ 9223372036854775807 ∧ x.f3.f4.length ≤ 9223372036854775807) :
    ∃ z, Ev (fun k => laws_szEntryS.f k l a0) z ∧ (z < 0 ∨ (0 ≤ z ∧ z ≤ 1048576 ∧ l.length ≤ 1048576 ∧ ∀ x ∈ l, x.f3.f4.length ≤ 1048576)) := by
  have loop : ∀ (d i : Nat) (a : Int), l.length - i = d → i ≤ l.length → l.length ≤ 1048576 → 0 ≤ a → a ≤ 1048576 → ∃ z, Ev (fun k => laws_szEntryS.l0 k l a (i : Int)) z ∧ (z < 0 ∨ (0 ≤ z ∧ z ≤ a ∧ ∀ x ∈ l.drop i, x.f3.f4.length ≤ 1048576)) := by
    intro d
    induction d with
    | zero =>
      intro i a hd hi hl2 h0 h1
      refine ⟨a, Ev_succ ?_, .inr ⟨h0, Int.le_refl _, by rw [List.drop_eq_nil_of_le (by omega)]; intro s hs; cases hs⟩⟩
      simp only [laws_szEntryS.l0]
      simp only [if_neg (show ¬ (i : Int) < (l.length : Int) by omega)]
      exact Ev.now _
    | succ d ih =>
      intro i a hd hi hl2 h0 h1
      have hx := hs (l[i]'(by omega)) (List.getElem_mem _)
      obtain ⟨z1, hz1, hz2⟩ := szEntry_eq (l[i]'(by omega)).f0 (l[i]'(by omega)).f1 (l[i]'(by omega)).f2 (l[i]'(by omega)).f3.f0 (l[i]'(by omega)).f3.f1 (l[i]'(by omega)).f3.f2 (l[i]'(by omega)).f3.f3 (l[i]'(by omega)).f3.f4 (l[i]'(by omega)).f3.f5 a h0 h1 hx.1 hx.2
      by_cases hn : z1 < 0
      · refine ⟨-1, Ev_succ ?_, .inl (by omega)⟩
        simp only [laws_szEntryS.l0]
        simp only [if_pos (show (i : Int) < (l.length : Int) by omega), if_pos (show 0 ≤ (i : Int) by omega)]
        rw [rd55_lt (by omega)]
        refine Ev.bind (Ev_some hz1) ?_
        simp only [if_pos hn]
        exact Ev.now _
      · obtain ⟨g0, g1, g2, _⟩ := hz2.resolve_left hn
        obtain ⟨z, hz, hz3⟩ := ih (i + 1) z1 (by omega) (by omega) hl2 g0 (by omega)
        refine ⟨z, Ev_succ ?_, ?_⟩
        · simp only [laws_szEntryS.l0]
          simp only [if_pos (show (i : Int) < (l.length : Int) by omega), if_pos (show 0 ≤ (i : Int) by omega)]
          rw [rd55_lt (by omega), w64 (n := (i : Int) + 1) (by omega) (by omega)]
          refine Ev.bind (Ev_some hz1) ?_
          simp only [if_neg hn]
          exact hz
        · rcases hz3 with h | h
          · exact .inl h
          · refine .inr ⟨h.1, by omega, ?_⟩
            rw [List.drop_eq_getElem_cons (by omega)]
            intro x hx
            rcases List.mem_cons.1 hx with rfl | hx
            · exact g2
            · exact h.2.2 x hx
  unfold laws_szEntryS.f
  rw [w64 (by omega) (by omega)]
  by_cases hn : a0 - l.length < 0
  · exact ⟨-1, by simp only [if_pos hn]; exact Ev.now _, .inl (by omega)⟩
  · simp only [if_neg hn]
    obtain ⟨z, hz, hz2⟩ := loop l.length 0 (a0 - l.length) (by omega) (by omega) (by omega) (by omega) (by omega)
    exact ⟨z, hz, hz2.imp id (fun h => ⟨h.1, by omega, by omega, by simpa using h.2.2⟩)⟩
theorem szEntryS_ev (l : List S55) (hl : l.length ≤ 9223372036854775807) (hs : ∀ x ∈ l, x.f0.size ≤ 9223372036854775807 ∧ x.f3.f4.length ≤ 9223372036854775807) :
    ∃ z, Ev (fun k => laws_szEntryS.f k l 1048576) z ∧ (z < 0 ∨ (l.length ≤ 1048576 ∧ ∀ x ∈ l, x.f3.f4.length ≤ 1048576)) := by
  obtain ⟨z, h1, h2⟩ := szEntryS_gen l 1048576 (by omega) (by omega) hl hs
  exact ⟨z, h1, h2.imp id (fun h => h.2.2)⟩
theorem toEntry_ev (key : ByteArray) (seq kind c s mn mx : Int) (h : List Int) (f : Bool) (hl : h.length ≤ 1048576) : Ev (fun k => laws_toEntry.f k key seq kind c s mn mx h f) (key, seq, kind, c, s, mn, mx, h, f) := by
  unfold laws_toEntry.f
  exact Ev.bind (toAgg_ev c s mn mx h f hl) (Ev.now _)
theorem eqEntry_same (key : ByteArray) (seq kind c s mn mx : Int) (h : List Int) (f : Bool) (hl : h.length ≤ 1048576) : Ev (fun k => laws_eqEntry.f k key seq kind c s mn mx h f key seq kind c s mn mx h f) true := by
  unfold laws_eqEntry.f
  simp only [if_true]
  exact Ev.bind (eqAgg_same c s mn mx h f hl) (Ev_cast (by simp only [if_true]; exact Ev.now _) rfl)
theorem toEntryS_l0 (l : List S55) (hs : ∀ x ∈ l, x.f3.f4.length ≤ 1048576) : ∀ (d i : Nat) (o : List S51), l.length - i = d → i ≤ l.length → l.length ≤ 1048576 → o.length = l.length → o.take i = (l.map toE).take i →
    Ev (fun k => laws_toEntryS.l0 k l o (i : Int)) (l.map toE) := by
  intro d
  induction d with
  | zero =>
    intro i o hd hi hl ho ht
    refine Ev_succ ?_
    simp only [laws_toEntryS.l0]
    simp only [if_neg (show ¬ (i : Int) < (l.length : Int) by omega)]
    exact Ev_cast (Ev.now _) (by rw [List.take_of_length_le (by omega), List.take_of_length_le (by simp; omega)] at ht; exact ht)
  | succ d ih =>
    intro i o hd hi hl ho ht
    refine Ev_succ ?_
    have hx := hs (l[i]'(by omega)) (List.getElem_mem _)
    simp only [laws_toEntryS.l0]
    simp only [if_pos (show (i : Int) < (l.length : Int) by omega), if_pos (show 0 ≤ (i : Int) by omega), if_pos (show (i : Int) < (o.length : Int) by omega)]
    rw [rd55_lt (by omega), w64 (by omega) (by omega)]
    refine Ev.bind (toEntry_ev _ _ _ _ _ _ _ _ _ hx) ?_
    refine ih (i + 1) _ (by omega) (by omega) hl (by simpa using ho) ?_
    apply List.ext_getElem?
    intro j
    rw [List.getElem?_take, List.getElem?_take]
    by_cases h1 : j < i
    · have := congrArg (fun x => x[j]?) ht
      simp only [List.getElem?_take, if_pos h1] at this
      rw [if_pos (by omega), if_pos (by omega), List.getElem?_set]
      simp only [Int.toNat_natCast]
      rw [if_neg (by omega), this]
    · by_cases h2 : j = i
      · subst h2
        rw [if_pos (by omega), if_pos (by omega), List.getElem?_set]
        simp only [Int.toNat_natCast, if_true]
        rw [if_pos (by omega)]
        simp [show j < l.length by omega, toE]
      · rw [if_neg (by omega), if_neg (by omega)]
theorem toEntryS_ev (l : List S55) (hl : l.length ≤ 1048576) (hs : ∀ x ∈ l, x.f3.f4.length ≤ 1048576) : Ev (fun k => laws_toEntryS.f k l) (l.map toE) := by
  unfold laws_toEntryS.f
  simp only [if_pos (show 0 ≤ (l.length : Int) by omega), Int.toNat_natCast, if_pos (show l.length ≤ 2932031007402 by omega)]
  exact toEntryS_l0 l hs l.length 0 _ (by omega) (by omega) (by omega) (by simp) (by simp)
theorem eqEntryS_same (l : List S51) (hl : l.length ≤ 1048576) (hs : ∀ x ∈ l, x.f3.f4.length ≤ 1048576) : Ev (fun k => laws_eqEntryS.f k l l) true := by
  have loop : ∀ (d i : Nat), l.length - i = d → i ≤ l.length → Ev (fun k => laws_eqEntryS.l0 k l l (i : Int)) true := by
    intro d
    induction d with
    | zero =>
      intro i hd hi
      refine Ev_succ ?_
      simp only [laws_eqEntryS.l0]
      simp only [if_neg (show ¬ (i : Int) < (l.length : Int) by omega)]
      exact Ev.now _
    | succ d ih =>
      intro i hd hi
      refine Ev_succ ?_
      simp only [laws_eqEntryS.l0]
      simp only [if_pos (show (i : Int) < (l.length : Int) by omega), if_pos (show 0 ≤ (i : Int) by omega)]
      rw [rd51_lt (by omega), w64 (by omega) (by omega)]
      refine Ev.bind (eqEntry_same _ _ _ _ _ _ _ _ _ (hs _ (List.getElem_mem _))) ?_
      simp only [if_true]
      exact ih (i + 1) (by omega) (by omega)
  unfold laws_eqEntryS.f
  simp only [if_true]
  exact loop l.length 0 (by omega) (by omega)
theorem toE_hist (l : List S55) (hs : ∀ x ∈ l, x.f3.f4.length ≤ 1048576) : ∀ x ∈ l.map toE, x.f3.f4.length ≤ 1048576 := by
  intro x hx
  obtain ⟨y, hy, rfl⟩ := List.mem_map.1 hx
  exact hs y hy
/-! ### good rows of entries -/
def eBefore (a b : S51) : Bool := decide (Op.bytesLess a.f0.toList b.f0.toList = true ∨ (a.f0.toList = b.f0.toList ∧ b.f1 < a.f1))
def eGood (e : S51) : Bool := decide (goodEntry e.f0 e.f1 e.f2 e.f3.f0 e.f3.f1 e.f3.f2 e.f3.f3 e.f3.f4 e.f3.f5)
def stepOk (m : List S51) (i : Nat) : Bool := eGood (rd_T51 m (i : Int)) && (decide (i = 0) || eBefore (rd_T51 m ((i - 1 : Nat) : Int)) (rd_T51 m (i : Int)))
def okFrom (m : List S51) : Nat → Nat → Bool
  | 0, _ => true
  | d + 1, i => stepOk m i && okFrom m d (i + 1)
def seqsOf (m : List S51) : List Int := m.map (·.f1)
def goodEntries (m : List S51) : Bool := okFrom m m.length 0 && decide ((seqsOf m).Nodup)
theorem less_irrefl (a : List UInt8) : Op.bytesLess a a = false := by
  have := bytesLess_tri a a
  cases h : Op.bytesLess a a
  · rfl
  · rw [h, Bool.true_or] at this; cases this
theorem less_asymm (a b : List UInt8) (h : Op.bytesLess a b = true) : Op.bytesLess b a = false := by
  have := bytesLess_tri a b
  rw [h, Bool.true_or] at this
  cases hb : Op.bytesLess b a
  · rfl
  · rw [hb] at this; cases this
theorem seqs_take {m : List S51} {i : Nat} (h : i < m.length) : (seqsOf m).take i ++ [m[i].f1] = (seqsOf m).take (i + 1) := by
  rw [List.take_succ_eq_append_getElem (show i < (seqsOf m).length by simpa [seqsOf] using h)]
  simp [seqsOf]
theorem spec_l5Before_eq (a b : S51) : spec_l5Before.f a.f0 a.f1 a.f2 a.f3.f0 a.f3.f1 a.f3.f2 a.f3.f3 a.f3.f4 a.f3.f5 b.f0 b.f1 b.f2 b.f3.f0 b.f3.f1 b.f3.f2 b.f3.f3 b.f3.f4 b.f3.f5 = some (eBefore a b) := by
  unfold spec_l5Before.f eBefore
  by_cases h1 : Op.bytesLess a.f0.toList b.f0.toList = true
  · rw [if_pos h1, decide_eq_true (.inl h1)]
  · rw [if_neg h1]
    by_cases h2 : a.f0.toList = b.f0.toList
    · rw [if_pos h2]
      congr 1
      rw [decide_eq_decide]
      constructor
      · intro h; exact .inr ⟨h2, h⟩
      · rintro (h | ⟨_, h⟩)
        · exact absurd h h1
        · exact h
    · rw [if_neg h2]
      simp [h1, h2]
def nodFrom (s : List Int) : Nat → Nat → Bool
  | 0, _ => true
  | d + 1, i => !((s.take i).contains (rd s (i : Int))) && nodFrom s d (i + 1)
theorem nodFrom_eq (s : List Int) : ∀ (d i : Nat), s.length - i = d → i ≤ s.length → (decide ((s.take i).Nodup) && nodFrom s d i) = decide s.Nodup := by
  intro d
  induction d with
  | zero =>
    intro i hd hi
    rw [List.take_of_length_le (by omega)]
    simp [nodFrom]
  | succ d ih =>
    intro i hd hi
    have hlt : i < s.length := by omega
    rw [← ih (i + 1) (by omega) (by omega)]
    simp only [nodFrom]
    rw [← Bool.and_assoc, rd_lt hlt]
    congr 1
    rw [List.take_succ_eq_append_getElem hlt]
    rw [Bool.eq_iff_iff]
    simp only [Bool.and_eq_true, decide_eq_true_eq, Bool.not_eq_true', List.nodup_append]
    constructor
    · rintro ⟨h1, h2⟩
      refine ⟨h1, by simp, ?_⟩
      intro x hx y hy e
      rw [List.mem_singleton] at hy
      subst hy; subst e
      have : (s.take i).contains s[i] = true := by rw [List.contains_iff_mem]; exact hx
      rw [this] at h2; cases h2
    · rintro ⟨h1, _, h3⟩
      refine ⟨h1, ?_⟩
      rw [Bool.eq_false_iff]
      intro hc
      rw [List.contains_iff_mem] at hc
      exact h3 _ hc _ (List.mem_singleton.2 rfl) rfl
theorem spec_GoodEntries_l1 (s : List Int) (hs : s.length ≤ 1048576) : ∀ (d i : Nat), s.length - i = d → i ≤ s.length → Ev (fun k => spec_GoodEntries.l1 k s s (s.length : Int) (i : Int)) (nodFrom s d i) := by
  have l2 : ∀ (i : Nat) (hi : i < s.length) (R : Bool), Ev (fun k => spec_GoodEntries.l1 k s s (s.length : Int) ((i + 1 : Nat) : Int)) R → ∀ (q pre : List Int), pre ++ q = s.take i → Ev (fun k => spec_GoodEntries.l2 k s (rd s (i : Int)) s (s.length : Int) (i : Int) (s.take i) ((s.take i).length : Int) (pre.length : Int)) (!(q.contains (rd s (i : Int))) && R) := by
    intro i hi R hR q
    have hl : (s.take i).length = i := by rw [List.length_take]; omega
    induction q with
    | nil =>
      intro pre he
      refine Ev_succ ?_
      have : pre.length = i := by have := congrArg List.length he; rw [hl] at this; simpa using this
      simp only [spec_GoodEntries.l2]
      simp only [if_neg (show ¬ (pre.length : Int) < ((s.take i).length : Int) by omega)]
      rw [w64 (by omega) (by omega)]
      exact Ev_cast hR (by simp)
    | cons p q ih =>
      intro pre he
      refine Ev_succ ?_
      have hlen : pre.length + q.length + 1 = i := by have := congrArg List.length he; rw [hl] at this; simp at this; omega
      have hrd : rd (s.take i) (pre.length : Int) = p := by rw [← he, rd_lt (by simp)]; simp
      simp only [spec_GoodEntries.l2]
      simp only [if_pos (show (pre.length : Int) < ((s.take i).length : Int) by omega), if_pos (show 0 ≤ (pre.length : Int) by omega), hrd]
      by_cases hp : p = rd s (i : Int)
      · simp only [if_pos hp]
        refine Ev_cast (Ev.now _) ?_
        simp [hp]
      · simp only [if_neg hp]
        rw [w64 (by omega) (by omega), show (pre.length : Int) + 1 = ((pre ++ [p]).length : Int) by simp]
        refine Ev_cast (ih (pre ++ [p]) (by rw [← he]; simp)) ?_
        have hp2 : ¬ rd s (i : Int) = p := fun e => hp e.symm
        simp [hp2]
  intro d
  induction d with
  | zero =>
    intro i hd hi
    refine Ev_succ ?_
    simp only [spec_GoodEntries.l1]
    simp only [if_neg (show ¬ (i : Int) < (s.length : Int) by omega)]
    exact Ev.now _
  | succ d ih =>
    intro i hd hi
    refine Ev_succ ?_
    simp only [spec_GoodEntries.l1]
    simp only [if_pos (show (i : Int) < (s.length : Int) by omega), if_pos (show 0 ≤ (i : Int) by omega), if_pos (show (i : Int) ≤ (s.length : Int) by omega), Int.toNat_natCast]
    refine Ev.bind (Ev_some rfl) ?_
    exact Ev_cast (l2 i (by omega) _ (ih (i + 1) (by omega) (by omega)) (s.take i) [] (by simp)) rfl
theorem spec_GoodEntries_ev (m : List S51) (hm : m.length ≤ 1048576) : Ev (fun k => spec_GoodEntries.f k m) (goodEntries m) := by
  have hsl : (seqsOf m).length = m.length := by simp [seqsOf]
  have loop : ∀ (d i : Nat), m.length - i = d → i ≤ m.length → Ev (fun k => spec_GoodEntries.l0 k m ((seqsOf m).take i) m (m.length : Int) (i : Int)) (okFrom m d i && decide ((seqsOf m).Nodup)) := by
    intro d
    induction d with
    | zero =>
      intro i hd hi
      refine Ev_succ ?_
      simp only [spec_GoodEntries.l0]
      simp only [if_neg (show ¬ (i : Int) < (m.length : Int) by omega)]
      rw [List.take_of_length_le (by omega)]
      refine Ev_cast (spec_GoodEntries_l1 (seqsOf m) (by omega) _ 0 rfl (by omega)) ?_
      have := nodFrom_eq (seqsOf m) _ 0 rfl (by omega)
      simp only [List.take_zero] at this
      rw [← this]
      simp [okFrom]
    | succ d ih =>
      intro i hd hi
      have hlt : i < m.length := by omega
      refine Ev_succ ?_
      have hsq : ((seqsOf m).take i).length = i := by rw [List.length_take]; omega
      have tk : (seqsOf m).take i ++ [m[i].f1] = (seqsOf m).take (i + 1) := seqs_take hlt
      simp only [spec_GoodEntries.l0]
      simp only [if_pos (show (i : Int) < (m.length : Int) by omega), if_pos (show 0 ≤ (i : Int) by omega), if_pos (show ((seqsOf m).take i).length < 17592186044416 by omega)]
      rw [w64 (n := (i : Int) + 1) (by omega) (by omega)]
      refine Ev.bind (spec_GoodEntry_ev _ _ _ _ _ _ _ _ _) ?_
      have nxt := ih (i + 1) (by omega) (by omega)
      rw [← tk, show (((i + 1 : Nat)) : Int) = (i : Int) + 1 by simp] at nxt
      by_cases hg : eGood (rd_T51 m (i : Int)) = true
      · have hg2 := hg
        unfold eGood at hg2
        simp only [if_pos hg2]
        by_cases h0 : (i : Int) > 0
        · simp only [if_pos h0]
          rw [w64 (n := (i : Int) - 1) (by omega) (by omega)]
          simp only [if_pos (show 0 ≤ (i : Int) - 1 by omega), if_pos (show (i : Int) - 1 < (m.length : Int) by omega)]
          refine Ev.bind (Ev_some (spec_l5Before_eq _ _)) ?_
          have e1 : ((i - 1 : Nat) : Int) = (i : Int) - 1 := by omega
          by_cases hb : eBefore (rd_T51 m ((i : Int) - 1)) (rd_T51 m (i : Int)) = true
          · simp only [if_pos hb]
            rw [rd51_lt hlt]
            refine Ev_cast nxt ?_
            have hst : stepOk m i = true := by unfold stepOk; rw [hg, e1, hb, Bool.or_true]; rfl
            simp [okFrom, hst]
          · simp only [if_neg hb]
            refine Ev_cast (Ev.now _) ?_
            have hi0 : decide (i = 0) = false := decide_eq_false (by omega)
            have hst : stepOk m i = false := by unfold stepOk; rw [e1, Bool.eq_false_iff.mpr hb, hi0, Bool.or_false, Bool.and_false]
            simp [okFrom, hst]
        · simp only [if_neg h0]
          rw [rd51_lt hlt]
          refine Ev_cast nxt ?_
          have hst : stepOk m i = true := by unfold stepOk; rw [hg, decide_eq_true (show i = 0 by omega)]; rfl
          simp [okFrom, hst]
      · have hg2 := hg
        unfold eGood at hg2
        simp only [if_neg hg2]
        refine Ev_cast (Ev.now _) ?_
        have hst : stepOk m i = false := by unfold stepOk; rw [Bool.eq_false_iff.mpr hg, Bool.false_and]
        simp [okFrom, hst]
  unfold spec_GoodEntries.f
  have := loop m.length 0 (by omega) (by omega)
  simpa [goodEntries] using this
theorem compact_len (t : List Int) (hs : t.Pairwise (· ≤ ·)) : (Lib.compact t).length = t.length ↔ t.Nodup := by
  have hg : ∀ j (hj : j < t.length), t.toArray[j]! = t[j] := fun j hj => by simp [hj]
  have h1 : (Lib.compact t).length = t.length ↔ ∀ j, j < t.length → Lib.keeps t.toArray j = true := by
    unfold Lib.compact Lib.compactUpTo
    rw [List.length_map]
    have := List.length_filter_eq_length_iff (p := Lib.keeps t.toArray) (l := List.range t.length)
    rw [List.length_range] at this
    rw [this]
    simp
  rw [h1, List.Nodup, List.pairwise_iff_getElem]
  rw [List.pairwise_iff_getElem] at hs
  constructor
  · intro h
    have adj : ∀ j (hj : j + 1 < t.length), t[j] < t[j + 1] := by
      intro j hj
      have hk := h (j + 1) hj
      unfold Lib.keeps at hk
      have hk2 := (of_decide_eq_true hk).resolve_left (by omega)
      rw [hg (j + 1) hj, show j + 1 - 1 = j by omega, hg j (by omega)] at hk2
      have := hs j (j + 1) (by omega) hj (by omega)
      omega
    intro i j hi hj hij
    have hj2 : j - 1 + 1 < t.length := by omega
    have a1 := adj (j - 1) hj2
    have e : j - 1 + 1 = j := by omega
    simp only [e] at a1
    by_cases hlt : i < j - 1
    · have := hs i (j - 1) hi (by omega) hlt
      show t[i] ≠ t[j]
      omega
    · have : i = j - 1 := by omega
      subst this
      show t[j - 1] ≠ t[j]
      omega
  · intro h j hj
    unfold Lib.keeps
    refine decide_eq_true ?_
    by_cases h0 : j = 0
    · exact .inl h0
    · right
      rw [hg j hj, hg (j - 1) (by omega)]
      exact fun e => h (j - 1) j (by omega) hj (by omega) e.symm
theorem sorted_compact (s : List Int) : (Lib.compact (s.mergeSort fun x y => decide (x ≤ y))).length = s.length ↔ s.Nodup := by
  have hp := List.mergeSort_perm s (fun x y => decide (x ≤ y))
  have hs : (s.mergeSort fun x y => decide (x ≤ y)).Pairwise (· ≤ ·) := by
    have := List.pairwise_mergeSort (le := fun x y : Int => decide (x ≤ y)) (fun a b c h1 h2 => by simp only [decide_eq_true_eq] at *; omega) (fun a b => by simp only [Bool.or_eq_true, decide_eq_true_eq]; omega) s
    exact this.imp (fun h => by simpa using h)
  rw [← hp.nodup_iff, ← compact_len _ hs, hp.length_eq]
theorem cmpOr2 (a b : Int) : Ev (fun k => cmp_Or_int.f k [a, b]) (if a = 0 then b else a) := by
  unfold cmp_Or_int.f
  refine Ev_succ ?_
  simp only [cmp_Or_int.l0]
  by_cases ha : a = 0
  · subst ha
    simp [rd]
    refine Ev_succ ?_
    simp only [cmp_Or_int.l0]
    by_cases hb : b = 0
    · subst hb
      simp [rd, wrap64]
      refine Ev_succ ?_
      simp only [cmp_Or_int.l0]
      simp
      exact Ev.now _
    · simp [rd, wrap64, hb]
      exact Ev.now _
  · simp [rd, ha]
    exact Ev.now _
def sCmp (a b : List UInt8) : Int := if Op.bytesLess a b = true then -1 else if Op.bytesLess b a = true then 1 else 0
def iCmp (a b : Int) : Int := if a < b then -1 else if a > b then 1 else 0
def eCmp (a b : S51) : Int := if sCmp a.f0.toList b.f0.toList = 0 then iCmp b.f1 a.f1 else sCmp a.f0.toList b.f0.toList
theorem impl_compareEntries_ev (a b : S51) : ∃ c, Ev (fun k => impl_compareEntries.f k a.f0 a.f1 a.f2 a.f3.f0 a.f3.f1 a.f3.f2 a.f3.f3 a.f3.f4 a.f3.f5 b.f0 b.f1 b.f2 b.f3.f0 b.f3.f1 b.f3.f2 b.f3.f3 b.f3.f4 b.f3.f5) c ∧ (c ≥ 0 ↔ eBefore a b = false) := by
  have h1 : cmp_Compare_string.f a.f0 b.f0 = some (sCmp a.f0.toList b.f0.toList) := by
    unfold sCmp cmp_Compare_string.f cmp_isNaN_string.f
    simp only [bne_self_eq_false, Option.bind_some, Bool.false_eq_true, if_false]
    split
    · rfl
    · split <;> rfl
  have h2 : cmp_Compare_int.f b.f1 a.f1 = some (iCmp b.f1 a.f1) := by
    unfold iCmp cmp_Compare_int.f cmp_isNaN_int.f
    simp only [bne_self_eq_false, Option.bind_some, Bool.false_eq_true, if_false]
    split
    · rfl
    · split <;> rfl
  refine ⟨eCmp a b, ?_, ?_⟩
  · unfold impl_compareEntries.f
    refine Ev.bind (Ev_some h1) ?_
    refine Ev.bind (Ev_some h2) ?_
    exact Ev.bind (cmpOr2 _ _) (Ev.now _)
  · unfold eCmp sCmp iCmp
    have tri := bytesLess_tri a.f0.toList b.f0.toList
    unfold eBefore
    rw [decide_eq_false_iff_not]
    by_cases l1 : Op.bytesLess a.f0.toList b.f0.toList = true
    · simp [l1]
    · have l1f := Bool.eq_false_iff.mpr l1
      by_cases l2 : Op.bytesLess b.f0.toList a.f0.toList = true
      · rw [l1f, l2] at tri
        have hne : ¬ a.f0.toList = b.f0.toList := by
          intro e
          rw [e] at tri
          simp at tri
        simp [l1f, l2, hne]
      · have l2f := Bool.eq_false_iff.mpr l2
        rw [l1f, l2f] at tri
        have he : a.f0.toList = b.f0.toList := by simpa using tri
        simp only [l1f, l2f, Bool.false_eq_true, if_false, if_true, he]
        by_cases h : b.f1 < a.f1
        · simp [h, less_irrefl]
        · simp only [h, if_false]
          by_cases h' : b.f1 > a.f1 <;> simp [h', less_irrefl]
theorem impl_GoodEntries_ev (m : List S51) (hm : m.length ≤ 1048576) : Ev (fun k => impl_GoodEntries.f k m) (goodEntries m) := by
  have hsl : (seqsOf m).length = m.length := by simp [seqsOf]
  have loop : ∀ (d i : Nat), m.length - i = d → i ≤ m.length → Ev (fun k => impl_GoodEntries.l0 k m ((seqsOf m).take i) m (m.length : Int) (i : Int)) (okFrom m d i && decide ((seqsOf m).Nodup)) := by
    intro d
    induction d with
    | zero =>
      intro i hd hi
      refine Ev_succ ?_
      simp only [impl_GoodEntries.l0]
      simp only [if_neg (show ¬ (i : Int) < (m.length : Int) by omega)]
      rw [List.take_of_length_le (by omega)]
      have hml : ((seqsOf m).mergeSort fun x y => decide (x ≤ y)).length = m.length := by rw [List.length_mergeSort, hsl]
      refine Ev.bind (Ev_some (show slices_Sort_int_int.f (seqsOf m) = some _ by unfold slices_Sort_int_int.f; rw [if_pos (by omega)])) ?_
      refine Ev.bind (Ev_some (show slices_Compact_int_int.f _ = some _ by unfold slices_Compact_int_int.f; rw [if_pos (by omega)])) ?_
      refine Ev_cast (Ev.now _) ?_
      simp only [okFrom, Bool.true_and]
      have := sorted_compact (seqsOf m)
      rw [hsl] at this
      rw [Bool.eq_iff_iff, beq_iff_eq, decide_eq_true_eq, ← this]
      omega
    | succ d ih =>
      intro i hd hi
      have hlt : i < m.length := by omega
      refine Ev_succ ?_
      have hsq : ((seqsOf m).take i).length = i := by rw [List.length_take]; omega
      have tk : (seqsOf m).take i ++ [m[i].f1] = (seqsOf m).take (i + 1) := seqs_take hlt
      simp only [impl_GoodEntries.l0]
      simp only [if_pos (show (i : Int) < (m.length : Int) by omega), if_pos (show 0 ≤ (i : Int) by omega), if_pos (show ((seqsOf m).take i).length < 17592186044416 by omega)]
      rw [w64 (n := (i : Int) + 1) (by omega) (by omega)]
      refine Ev.bind (impl_GoodEntry_ev _ _ _ _ _ _ _ _ _) ?_
      have nxt := ih (i + 1) (by omega) (by omega)
      rw [← tk, show (((i + 1 : Nat)) : Int) = (i : Int) + 1 by simp] at nxt
      by_cases hg : eGood (rd_T51 m (i : Int)) = true
      · have hg2 := hg
        unfold eGood at hg2
        simp only [if_pos hg2]
        by_cases h0 : (i : Int) > 0
        · simp only [if_pos h0]
          rw [w64 (n := (i : Int) - 1) (by omega) (by omega)]
          simp only [if_pos (show 0 ≤ (i : Int) - 1 by omega), if_pos (show (i : Int) - 1 < (m.length : Int) by omega)]
          obtain ⟨c, hc, hc2⟩ := impl_compareEntries_ev (rd_T51 m ((i : Int) - 1)) (rd_T51 m (i : Int))
          refine Ev.bind hc ?_
          have e1 : ((i - 1 : Nat) : Int) = (i : Int) - 1 := by omega
          by_cases hb : eBefore (rd_T51 m ((i : Int) - 1)) (rd_T51 m (i : Int)) = true
          · simp only [if_neg (show ¬ c ≥ 0 from fun h => by rw [hc2.1 h] at hb; cases hb)]
            rw [rd51_lt hlt]
            refine Ev_cast nxt ?_
            have hst : stepOk m i = true := by unfold stepOk; rw [hg, e1, hb, Bool.or_true]; rfl
            simp [okFrom, hst]
          · simp only [if_pos (hc2.2 (Bool.eq_false_iff.mpr hb))]
            refine Ev_cast (Ev.now _) ?_
            have hi0 : decide (i = 0) = false := decide_eq_false (by omega)
            have hst : stepOk m i = false := by unfold stepOk; rw [e1, Bool.eq_false_iff.mpr hb, hi0, Bool.or_false, Bool.and_false]
            simp [okFrom, hst]
        · simp only [if_neg h0]
          rw [rd51_lt hlt]
          refine Ev_cast nxt ?_
          have hst : stepOk m i = true := by unfold stepOk; rw [hg, decide_eq_true (show i = 0 by omega)]; rfl
          simp [okFrom, hst]
      · have hg2 := hg
        unfold eGood at hg2
        simp only [if_neg hg2]
        refine Ev_cast (Ev.now _) ?_
        have hst : stepOk m i = false := by unfold stepOk; rw [Bool.eq_false_iff.mpr hg, Bool.false_and]
        simp [okFrom, hst]
  unfold impl_GoodEntries.f
  have := loop m.length 0 (by omega) (by omega)
  simpa [goodEntries] using this
/-! ### overlapping rows of entries -/
def overlap (a b : List S51) : Bool × Bool := if (goodEntries a && goodEntries b) = true then (if a.length = 0 ∨ b.length = 0 then (false, true) else (!(Op.bytesLess (rd_T51 b ((b.length : Int) - 1)).f0.toList (rd_T51 a 0).f0.toList) && !(Op.bytesLess (rd_T51 a ((a.length : Int) - 1)).f0.toList (rd_T51 b 0).f0.toList), true)) else (false, false)
theorem spec_Overlap_ev (a b : List S51) (ha : a.length ≤ 1048576) (hb : b.length ≤ 1048576) : Ev (fun k => spec_Overlap.f k a b) (overlap a b) := by
  unfold spec_Overlap.f
  have j0 : ∀ c : Bool, c = !(goodEntries a && goodEntries b) → Ev (fun k => spec_Overlap.j0 k a b c) (overlap a b) := by
    intro c hc
    refine Ev_succ ?_
    simp only [spec_Overlap.j0]
    unfold overlap
    by_cases hg : (goodEntries a && goodEntries b) = true
    · rw [hg] at hc
      subst hc
      simp only [Bool.not_true, Bool.false_eq_true, if_false, hg, if_true]
      by_cases h1 : a.length = 0
      · rw [if_pos (show (a.length : Int) = 0 by omega), if_pos (.inl h1)]
        exact Ev.now _
      · by_cases h2 : b.length = 0
        · rw [if_neg (show ¬ (a.length : Int) = 0 by omega), if_pos (show (b.length : Int) = 0 by omega), if_pos (.inr h2)]
          exact Ev.now _
        · rw [w64 (n := (b.length : Int) - 1) (by omega) (by omega), w64 (n := (a.length : Int) - 1) (by omega) (by omega)]
          simp only [if_neg (show ¬ (a.length : Int) = 0 by omega), if_neg (show ¬ (b.length : Int) = 0 by omega), if_neg (show ¬ (a.length = 0 ∨ b.length = 0) by omega), if_pos (show 0 < (a.length : Int) by omega), if_pos (show 0 ≤ (b.length : Int) - 1 by omega), if_pos (show (b.length : Int) - 1 < (b.length : Int) by omega), if_pos (show 0 < (b.length : Int) by omega), if_pos (show 0 ≤ (a.length : Int) - 1 by omega), if_pos (show (a.length : Int) - 1 < (a.length : Int) by omega)]
          by_cases h3 : Op.bytesLess (rd_T51 b ((b.length : Int) - 1)).f0.toList (rd_T51 a 0).f0.toList = true
          · simp only [if_pos h3]
            exact Ev_cast (Ev.now _) (by simp [h3])
          · simp only [if_neg h3]
            exact Ev_cast (Ev.now _) (by simp [h3])
    · rw [Bool.eq_false_iff.mpr hg] at hc ⊢
      subst hc
      simp only [Bool.not_false, if_true, Bool.false_eq_true, if_false]
      exact Ev.now _
  refine Ev.bind (spec_GoodEntries_ev a ha) ?_
  cases hA : goodEntries a with
  | true =>
    simp only [if_true]
    refine Ev.bind (spec_GoodEntries_ev b hb) ?_
    exact j0 _ (by rw [hA, Bool.true_and])
  | false =>
    simp only [Bool.false_eq_true, if_false]
    exact j0 _ (by rw [hA, Bool.false_and]; rfl)
theorem impl_Overlap_ev (a b : List S51) (ha : a.length ≤ 1048576) (hb : b.length ≤ 1048576) : Ev (fun k => impl_Overlap.f k a b) (overlap a b) := by
  unfold impl_Overlap.f
  have j0 : ∀ c : Bool, c = !(goodEntries a && goodEntries b) → Ev (fun k => impl_Overlap.j0 k a b c) (overlap a b) := by
    intro c hc
    refine Ev_succ ?_
    simp only [impl_Overlap.j0]
    unfold overlap
    by_cases hg : (goodEntries a && goodEntries b) = true
    · rw [hg] at hc
      subst hc
      simp only [Bool.not_true, Bool.false_eq_true, if_false, hg, if_true]
      by_cases h1 : a.length = 0
      · rw [if_pos (show (a.length : Int) = 0 by omega), if_pos (.inl h1)]
        exact Ev.now _
      · by_cases h2 : b.length = 0
        · rw [if_neg (show ¬ (a.length : Int) = 0 by omega), if_pos (show (b.length : Int) = 0 by omega), if_pos (.inr h2)]
          exact Ev.now _
        · rw [w64 (n := (b.length : Int) - 1) (by omega) (by omega), w64 (n := (a.length : Int) - 1) (by omega) (by omega)]
          simp only [if_neg (show ¬ (a.length : Int) = 0 by omega), if_neg (show ¬ (b.length : Int) = 0 by omega), if_neg (show ¬ (a.length = 0 ∨ b.length = 0) by omega), if_pos (show 0 < (a.length : Int) by omega), if_pos (show 0 ≤ (b.length : Int) - 1 by omega), if_pos (show (b.length : Int) - 1 < (b.length : Int) by omega), if_pos (show 0 < (b.length : Int) by omega), if_pos (show 0 ≤ (a.length : Int) - 1 by omega), if_pos (show (a.length : Int) - 1 < (a.length : Int) by omega)]
          by_cases h3 : Op.bytesLess (rd_T51 b ((b.length : Int) - 1)).f0.toList (rd_T51 a 0).f0.toList = true
          · simp only [if_pos h3]
            exact Ev_cast (Ev.now _) (by simp [h3])
          · simp only [if_neg h3]
            exact Ev_cast (Ev.now _) (by simp [h3])
    · rw [Bool.eq_false_iff.mpr hg] at hc ⊢
      subst hc
      simp only [Bool.not_false, if_true, Bool.false_eq_true, if_false]
      exact Ev.now _
  refine Ev.bind (impl_GoodEntries_ev a ha) ?_
  cases hA : goodEntries a with
  | true =>
    simp only [if_true]
    refine Ev.bind (impl_GoodEntries_ev b hb) ?_
    exact j0 _ (by rw [hA, Bool.true_and])
  | false =>
    simp only [Bool.false_eq_true, if_false]
    exact j0 _ (by rw [hA, Bool.false_and]; rfl)
theorem FnExactOverlap : laws_FnExactOverlap.Pure := by
  intro l m h0 h1
  have hb : ∀ l : List S55, (∀ x ∈ l, G55 x) → ∀ x ∈ l, x.f0.size ≤ 9223372036854775807 ∧ x.f3.f4.length ≤ 9223372036854775807 := by
    intro l h0 x hx
    have g := h0 x hx
    have g1 := g.1
    have g2 := g.2.2.2.2.2.2.2.1.1
    unfold maxLen at g1 g2
    omega
  refine Ev.rounds ?_
  unfold laws_FnExactOverlap.f
  obtain ⟨z, hz, hz2⟩ := szEntryS_gen l 1048576 (by omega) (by omega) (by have := h0.1; unfold maxLen at this; omega) (hb l h0.2)
  refine Ev.bind hz ?_
  by_cases hh : z < 0
  · simp only [if_pos hh]; exact Ev.now _
  obtain ⟨z0, z1, hl, hs⟩ := hz2.resolve_left hh
  simp only [if_neg hh]
  obtain ⟨y, hy, hy2⟩ := szEntryS_gen m z z0 z1 (by have := h1.1; unfold maxLen at this; omega) (hb m h1.2)
  refine Ev.bind hy ?_
  by_cases hh2 : y < 0
  · simp only [if_pos hh2]; exact Ev.now _
  obtain ⟨_, _, hm, ht⟩ := hy2.resolve_left hh2
  simp only [if_neg hh2]
  have hll : (l.map toE).length ≤ 1048576 := by simpa using hl
  have hmm : (m.map toE).length ≤ 1048576 := by simpa using hm
  refine Ev.bind (toEntryS_ev l hl hs) ?_
  refine Ev.bind (toEntryS_ev m hm ht) ?_
  refine Ev.bind (spec_Overlap_ev _ _ hll hmm) ?_
  refine Ev.bind (toEntryS_ev l hl hs) ?_
  refine Ev.bind (toEntryS_ev m hm ht) ?_
  refine Ev.bind (impl_Overlap_ev _ _ hll hmm) ?_
  simp only [bne_self_eq_false, Bool.false_eq_true, if_false]
  refine Ev_succ ?_
  simp only [laws_FnExactOverlap.j0, Bool.false_eq_true, if_false]
  refine Ev.bind (toEntryS_ev l hl hs) ?_
  refine Ev.bind (eqEntryS_same _ hll (toE_hist l hs)) ?_
  simp only [if_true]
  refine Ev.bind (toEntryS_ev m hm ht) ?_
  refine Ev.bind (eqEntryS_same _ hmm (toE_hist m ht)) ?_
  simp only [if_true]
  exact Ev.now _
end Go.Proofs.Ythkimdibhlkpbaa.Pure
