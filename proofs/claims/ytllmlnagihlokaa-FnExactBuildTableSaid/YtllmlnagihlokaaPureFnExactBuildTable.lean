/- The law FnExactBuildTable answers true, for all rows of entries and bits a key. -/
import Derived.Test.YtllmlnagihlokaaPFnExactBuildTablex17
set_option linter.unusedVariables false
set_option linter.unusedSimpArgs false
namespace Go.Proofs.Ytllmlnagihlokaa.Pure
open Go.RowKit Go.Proofs.Ytllmlnagihlokaa.PFnExactBuildTable Go.Proofs.YtllmlnagihlokaaW Go.Proofs.YtllmlnagihlokaaW.PrintWords Go.Proofs.YtllmlnagihlokaaW.PrintLast Go.Proofs.YtllmlnagihlokaaW.PrintMore
theorem Ev_succ {α : Type} {g : Nat → Option α} {r : α} (h : Ev (fun k => g (k + 1)) r) : Ev g r := Ev.step (fun _ => rfl) h
theorem Ev_some {α : Type} {o : Option α} {r : α} (h : o = some r) : Ev (fun _ => o) r := ⟨0, fun _ _ => h⟩
theorem Ev_cast {α : Type} {g : Nat → Option α} {r q : α} (h : Ev g r) (e : r = q) : Ev g q := e ▸ h
theorem w64 {n : Int} (h : -9223372036854775808 ≤ n) (h' : n ≤ 9223372036854775807) : wrap64 n = n := by unfold wrap64; omega
theorem wrap_u64 (n : Int) : IntKind.u64.wrap n = n % 18446744073709551616 := by simp [IntKind.wrap, IntKind.bits, IntKind.signed]
theorem wrap_u32 (n : Int) : IntKind.u32.wrap n = n % 4294967296 := by simp [IntKind.wrap, IntKind.bits, IntKind.signed]
/-- A list of bytes. -/
def Bytes (l : List Int) : Prop := ∀ x ∈ l, 0 ≤ x ∧ x ≤ 255
theorem Bytes.nil : Bytes [] := fun x hx => by cases hx
theorem Bytes.sub {a b : List Int} (h : Bytes a) (k : ∀ x ∈ b, x ∈ a) : Bytes b := fun x hx => h x (k x hx)
theorem Bytes.take {a : List Int} (h : Bytes a) (n : Nat) : Bytes (a.take n) := h.sub fun _ hx => List.mem_of_mem_take hx
theorem Bytes.drop {a : List Int} (h : Bytes a) (n : Nat) : Bytes (a.drop n) := h.sub fun _ hx => List.mem_of_mem_drop hx
theorem rd_lt {l : List Int} {i : Nat} (h : i < l.length) : rd l (i : Int) = l[i] := by simp [rd, h]
theorem Bytes.rd {l : List Int} (h : Bytes l) (i : Int) : 0 ≤ rd l i ∧ rd l i ≤ 255 := by
  unfold PrintWords.rd
  by_cases hi : i.toNat < l.length
  · rw [List.getD_eq_getElem?_getD, List.getElem?_eq_getElem hi]; exact h _ (List.getElem_mem hi)
  · rw [List.getD_eq_getElem?_getD, List.getElem?_eq_none (by omega)]; simp
theorem drop_cons {α : Type} {l : List α} {i : Nat} (h : i < l.length) : l.drop i = l[i] :: l.drop (i + 1) := List.drop_eq_getElem_cons h
theorem within_eq (a b c : Int) : impl_within.f a b c = some (decide (b ≤ a ∧ a ≤ c)) := by
  unfold impl_within.f
  by_cases h : a ≥ b
  · rw [if_pos h]; simp; intro; omega
  · rw [if_neg h]; simp; intro; omega
theorem l1In_eq (a b c : Int) : spec_l1In.f a b c = some (decide (b ≤ a ∧ a ≤ c)) := by
  unfold spec_l1In.f
  by_cases h : a ≥ b
  · rw [if_pos h]; simp; intro; omega
  · rw [if_neg h]; simp; intro; omega
theorem l4Value_eq (v : Int) : spec_l4Value.f v = some (decide (-1000000000 ≤ v ∧ v ≤ 1000000000)) := by
  unfold spec_l4Value.f
  rw [l1In_eq]; rfl
theorem isValue_eq (v : Int) : impl_isValue.f v = some (decide (-1000000000 ≤ v ∧ v ≤ 1000000000)) := by
  unfold impl_isValue.f
  rw [within_eq]; rfl
theorem eqIntS_l0 (a b : List Int) (hl : a.length = b.length) (hb : a.length ≤ 4611686018427387904) :
    ∀ (d i : Nat), a.length - i = d → i ≤ a.length → Ev (fun k => laws_eqIntS.l0 k a b (i : Int)) (decide (a.drop i = b.drop i)) := by
  intro d
  induction d with
  | zero =>
    intro i hd hi
    refine Ev_succ ?_
    simp only [laws_eqIntS.l0]
    simp only [if_neg (show ¬ (i : Int) < (a.length : Int) by omega)]
    exact Ev_cast (Ev.now _) (by rw [List.drop_eq_nil_of_le (by omega), List.drop_eq_nil_of_le (by omega)]; simp)
  | succ d ih =>
    intro i hd hi
    refine Ev_succ ?_
    simp only [laws_eqIntS.l0]
    simp only [if_pos (show (i : Int) < (a.length : Int) by omega), if_pos (show 0 ≤ (i : Int) by omega), if_pos (show (i : Int) < (b.length : Int) by omega)]
    rw [rd_lt (by omega), rd_lt (by omega), w64 (by omega) (by omega), drop_cons (l := a) (by omega), drop_cons (l := b) (i := i) (by omega)]
    by_cases e : a[i]'(by omega) = b[i]'(by omega)
    · simp only [if_pos e]
      exact Ev_cast (ih (i + 1) (by omega) (by omega)) (decide_eq_decide.2 (by rw [List.cons.injEq]; exact ⟨fun h => ⟨e, h⟩, fun h => h.2⟩))
    · simp only [if_neg e]
      exact Ev_cast (Ev.now _) (Eq.symm (decide_eq_false (by rw [List.cons.injEq]; exact fun h => e h.1)))
theorem eqIntS_ev (a b : List Int) (ha : a.length ≤ 4611686018427387904) : Ev (fun k => laws_eqIntS.f k a b) (decide (a = b)) := by
  unfold laws_eqIntS.f
  by_cases h : a.length = b.length
  · simp only [if_pos (show (a.length : Int) = (b.length : Int) by omega)]
    exact eqIntS_l0 a b h ha a.length 0 (by omega) (by omega)
  · simp only [if_neg (show ¬ (a.length : Int) = (b.length : Int) by omega)]
    exact Ev_cast (Ev.now _) (by simp; intro e; exact h (by rw [e]))
theorem eqIntS_same (a b : List Int) (ha : a.length ≤ 4611686018427387904) (e : a = b) : Ev (fun k => laws_eqIntS.f k a b) true := Ev_cast (eqIntS_ev a b ha) (by simp [e])
theorem toIntS_l0 (l : List Int) : ∀ (d i : Nat) (o : List Int), l.length - i = d → i ≤ l.length → l.length ≤ 1152921504606846976 → o.length = l.length → o.take i = l.take i →
    Ev (fun k => laws_toIntS.l0 k l o (i : Int)) l := by
  intro d
  induction d with
  | zero =>
    intro i o hd hi hl ho ht
    refine Ev_succ ?_
    simp only [laws_toIntS.l0]
    simp only [if_neg (show ¬ (i : Int) < (l.length : Int) by omega)]
    exact Ev_cast (Ev.now _) (by rw [List.take_of_length_le (by omega), List.take_of_length_le (by omega)] at ht; exact ht)
  | succ d ih =>
    intro i o hd hi hl ho ht
    refine Ev_succ ?_
    simp only [laws_toIntS.l0]
    simp only [if_pos (show (i : Int) < (l.length : Int) by omega), if_pos (show 0 ≤ (i : Int) by omega), if_pos (show (i : Int) < (o.length : Int) by omega)]
    rw [rd_lt (by omega), w64 (by omega) (by omega)]
    refine ih (i + 1) _ (by omega) (by omega) hl (by simpa using ho) ?_
    apply List.ext_getElem?
    intro j
    rw [List.getElem?_take, List.getElem?_take]
    by_cases h1 : j < i
    · have := congrArg (fun x => x[j]?) ht
      simp only [List.getElem?_take, if_pos h1] at this
      rw [if_pos (by omega), if_pos (by omega), List.getElem?_set]
      simp only [Int.toNat_natCast]
      rw [if_neg (by omega), this]
    · by_cases h2 : j = i
      · subst h2
        rw [if_pos (by omega), if_pos (by omega)]
        simp [show j < l.length by omega, show j < o.length by omega]
      · rw [if_neg (by omega), if_neg (by omega)]
theorem toIntS_ev (l : List Int) (hl : l.length ≤ 35184372088832) : Ev (fun k => laws_toIntS.f k l) l := by
  unfold laws_toIntS.f
  simp only [if_pos (show 0 ≤ (l.length : Int) by omega), Int.toNat_natCast, if_pos hl]
  exact toIntS_l0 l l.length 0 _ (by omega) (by omega) (by omega) (by simp) (by simp)
theorem szIntS_eq (l : List Int) (a : Int) (h0 : 0 ≤ a) (h1 : a ≤ 1048576) (hl : l.length ≤ 9223372036854775807) : laws_szIntS.f l a = some (if a - l.length < 0 then -1 else a - l.length) := by
  unfold laws_szIntS.f
  rw [w64 (by omega) (by omega)]
  by_cases h : a - (l.length : Int) < 0
  · simp only [if_pos h]
  · simp only [if_neg h]
def sum8 : List Int → Int
  | [] => 0
  | x :: t => x + sum8 t
def histOk (h : List Int) : Prop := ∀ x ∈ h, 0 ≤ x ∧ x ≤ 1000000000
instance (h : List Int) : Decidable (histOk h) := inferInstanceAs (Decidable (∀ x ∈ h, 0 ≤ x ∧ x ≤ 1000000000))
theorem histOk_cons (a : Int) (t : List Int) : histOk (a :: t) ↔ (0 ≤ a ∧ a ≤ 1000000000) ∧ histOk t := by
  unfold histOk; simp
def valueOk (v : Int) : Prop := -1000000000 ≤ v ∧ v ≤ 1000000000
instance (v : Int) : Decidable (valueOk v) := inferInstanceAs (Decidable (_ ∧ _))
/-- What is asked behind the histogram; z: all of it together. -/
def aggTail (c s mn mx : Int) (f : Bool) (z : Int) : Prop :=
  (c = 0 ∧ z = 0 ∧ mn = 0 ∧ mx = 0 ∧ s = 0 ∧ f = false) ∨
  (c ≠ 0 ∧ valueOk mn ∧ valueOk mx ∧ mn ≤ mx ∧ ((f = true ∧ s = 0) ∨ (f = false ∧ z = c ∧ -1000000000 * c ≤ s ∧ s ≤ 1000000000 * c)))
def goodAgg (c s mn mx : Int) (h : List Int) (f : Bool) : Prop := (0 ≤ c ∧ c ≤ 1000000000) ∧ h.length = 8 ∧ histOk h ∧ aggTail c s mn mx f (sum8 h)
instance (c s mn mx : Int) (f : Bool) (z : Int) : Decidable (aggTail c s mn mx f z) := inferInstanceAs (Decidable (_ ∨ _))
instance (c s mn mx : Int) (h : List Int) (f : Bool) : Decidable (goodAgg c s mn mx h f) := inferInstanceAs (Decidable (_ ∧ _))
theorem aggTail_pos {c s mn mx : Int} {f : Bool} {z : Int} (e0 : c ≠ 0) : aggTail c s mn mx f z ↔ (valueOk mn ∧ valueOk mx ∧ mn ≤ mx ∧ ((f = true ∧ s = 0) ∨ (f = false ∧ z = c ∧ -1000000000 * c ≤ s ∧ s ≤ 1000000000 * c))) := by
  constructor
  · intro h
    rcases h with h | h
    · exact absurd h.1 e0
    · exact h.2
  · intro h
    exact .inr ⟨e0, h⟩
theorem eqAgg_same (c s mn mx : Int) (h : List Int) (f : Bool) (hl : h.length ≤ 1048576) : Ev (fun k => laws_eqAgg.f k c s mn mx h f c s mn mx h f) true := by
  unfold laws_eqAgg.f
  simp only [if_true, bne_self_eq_false, Bool.false_eq_true, if_false]
  exact Ev.bind (eqIntS_same h h (by omega) rfl) (Ev_cast (by simp only [if_true]; exact Ev.now _) rfl)
theorem toAgg_ev (c s mn mx : Int) (h : List Int) (f : Bool) (hl : h.length ≤ 1048576) : Ev (fun k => laws_toAgg.f k c s mn mx h f) (c, s, mn, mx, h, f) := by
  unfold laws_toAgg.f
  exact Ev.bind (toIntS_ev h (by omega)) (Ev.now _)
theorem spec_GoodAgg_l0 (c s mn mx : Int) (h : List Int) (f : Bool) (h8 : h.length = 8) (R : Int → Bool) (fin : ∀ z : Int, 0 ≤ z → z ≤ 8000000000 → Ev (fun k => spec_GoodAgg.l0 k z h (h.length : Int) (8 : Int) c s mn mx h f) (R z)) :
    ∀ (d i : Nat) (z : Int), 8 - i = d → i ≤ 8 → 0 ≤ z → z ≤ 1000000000 * i → Ev (fun k => spec_GoodAgg.l0 k z h (h.length : Int) (i : Int) c s mn mx h f) (if histOk (h.drop i) then R (z + sum8 (h.drop i)) else false) := by
  intro d
  induction d with
  | zero =>
    intro i z hd hi h0 h1
    obtain rfl : i = 8 := by omega
    rw [List.drop_eq_nil_of_le (by omega), if_pos (show histOk [] from fun x hx => by cases hx)]
    simp only [sum8, Int.add_zero]
    exact fin z h0 (by omega)
  | succ d ih =>
    intro i z hd hi h0 h1
    refine Ev_succ ?_
    simp only [spec_GoodAgg.l0]
    simp only [if_pos (show (i : Int) < (h.length : Int) by omega), if_pos (show 0 ≤ (i : Int) by omega)]
    rw [rd_lt (by omega), drop_cons (l := h) (i := i) (by omega)]
    refine Ev.bind (Ev_some (l1In_eq _ _ _)) ?_
    by_cases hx : 0 ≤ h[i]'(by omega) ∧ h[i]'(by omega) ≤ 1000000000
    · rw [decide_eq_true hx]
      simp only [if_true]
      rw [w64 (n := (i : Int) + 1) (by omega) (by omega), w64 (by omega) (by omega)]
      refine Ev_cast (ih (i + 1) _ (by omega) (by omega) (by omega) (by omega)) ?_
      by_cases hr : histOk (h.drop (i + 1))
      · rw [if_pos hr, if_pos ((histOk_cons _ _).2 ⟨hx, hr⟩)]
        simp only [sum8]
        rw [Int.add_assoc]
      · rw [if_neg hr, if_neg (fun hh => hr ((histOk_cons _ _).1 hh).2)]
    · rw [decide_eq_false hx, if_neg (fun hh => hx ((histOk_cons _ _).1 hh).1)]
      simp only [Bool.false_eq_true, if_false]
      exact Ev.now _
theorem spec_GoodAgg_fin (c s mn mx : Int) (h : List Int) (f : Bool) (h8 : h.length = 8) (hc : 0 ≤ c ∧ c ≤ 1000000000) (z : Int) (h0 : 0 ≤ z) (h1 : z ≤ 8000000000) :
    Ev (fun k => spec_GoodAgg.l0 k z h (h.length : Int) (8 : Int) c s mn mx h f) (decide (aggTail c s mn mx f z)) := by
  refine Ev_succ ?_
  simp only [spec_GoodAgg.l0]
  simp only [if_neg (show ¬ (8 : Int) < (h.length : Int) by omega)]
  by_cases e0 : c = 0
  · simp only [if_pos e0]
    by_cases e1 : z = 0
    · simp only [if_pos e1]
      by_cases e2 : mn = 0
      · simp only [if_pos e2]
        by_cases e3 : mx = 0
        · simp only [if_pos e3]
          by_cases e4 : s = 0
          · simp only [if_pos e4]
            refine Ev_cast (Ev.now _) ?_
            cases f <;> simp [aggTail, e0, e1, e2, e3, e4]
          · simp only [if_neg e4]
            exact Ev_cast (Ev.now _) (by simp [aggTail, e0, e4])
        · simp only [if_neg e3]
          exact Ev_cast (Ev.now _) (by simp [aggTail, e0, e3])
      · simp only [if_neg e2]
        exact Ev_cast (Ev.now _) (by simp [aggTail, e0, e2])
    · simp only [if_neg e1]
      exact Ev_cast (Ev.now _) (by simp [aggTail, e0, e1])
  · simp only [if_neg e0]
    have bad : ∀ P : Prop, ¬ P → (aggTail c s mn mx f z → P) → Ev (fun k => spec_GoodAgg.j2 k z true c s mn mx h f) (decide (aggTail c s mn mx f z)) := by
      intro P hP hh
      refine Ev_succ ?_
      simp only [spec_GoodAgg.j2, if_true]
      exact Ev_cast (Ev.now _) (decide_eq_false (fun ht => hP (hh ht))).symm
    refine Ev.bind (Ev_some (l4Value_eq _)) ?_
    by_cases v1 : -1000000000 ≤ mn ∧ mn ≤ 1000000000
    · rw [decide_eq_true v1]
      simp only [if_true]
      refine Ev.bind (Ev_some (l4Value_eq _)) ?_
      by_cases v2 : -1000000000 ≤ mx ∧ mx ≤ 1000000000
      · rw [decide_eq_true v2]
        simp only [if_true]
        by_cases v3 : mn > mx
        · rw [decide_eq_true v3]
          exact bad (mn ≤ mx) (by omega) (fun hh => ((aggTail_pos e0).1 hh).2.2.1)
        · rw [decide_eq_false v3]
          refine Ev_succ ?_
          simp only [spec_GoodAgg.j2, Bool.false_eq_true, if_false]
          cases f with
          | true =>
            simp only [if_true]
            refine Ev_cast (Ev.now _) ?_
            rw [Bool.eq_iff_iff]
            simp only [beq_iff_eq, decide_eq_true_eq]
            rw [aggTail_pos e0]
            constructor
            · intro hs
              exact ⟨v1, v2, by omega, .inl ⟨rfl, hs⟩⟩
            · intro hh
              rcases hh.2.2.2 with hz | hz
              · exact hz.2
              · cases hz.1
          | false =>
            simp only [Bool.false_eq_true, if_false]
            by_cases e5 : z = c
            · simp only [if_pos e5]
              refine Ev.bind (Ev_some (l1In_eq _ _ _)) ?_
              rw [w64 (by omega) (by omega), w64 (by omega) (by omega)]
              refine Ev_cast (Ev.now _) ?_
              rw [decide_eq_decide, aggTail_pos e0]
              constructor
              · intro hs
                exact ⟨v1, v2, by omega, .inr ⟨rfl, e5, hs.1, hs.2⟩⟩
              · intro hh
                rcases hh.2.2.2 with hz | hz
                · cases hz.1
                · exact hz.2.2
            · simp only [if_neg e5]
              refine Ev_cast (Ev.now _) (decide_eq_false ?_).symm
              intro hh
              rcases ((aggTail_pos e0).1 hh).2.2.2 with hz | hz
              · cases hz.1
              · exact e5 hz.2.1
      · rw [decide_eq_false v2]
        simp only [Bool.false_eq_true, if_false]
        exact bad (valueOk mx) v2 (fun hh => ((aggTail_pos e0).1 hh).2.1)
    · rw [decide_eq_false v1]
      simp only [Bool.false_eq_true, if_false]
      exact bad (valueOk mn) v1 (fun hh => ((aggTail_pos e0).1 hh).1)
theorem spec_GoodAgg_ev (c s mn mx : Int) (h : List Int) (f : Bool) : Ev (fun k => spec_GoodAgg.f k c s mn mx h f) (decide (goodAgg c s mn mx h f)) := by
  unfold spec_GoodAgg.f
  have bad : ¬ goodAgg c s mn mx h f → Ev (fun k => spec_GoodAgg.j0 k true c s mn mx h f) (decide (goodAgg c s mn mx h f)) := by
    intro hn
    refine Ev_succ ?_
    simp only [spec_GoodAgg.j0, if_true]
    exact Ev_cast (Ev.now _) (decide_eq_false hn).symm
  refine Ev.bind (Ev_some (l1In_eq _ _ _)) ?_
  by_cases hc : 0 ≤ c ∧ c ≤ 1000000000
  · rw [decide_eq_true hc]
    simp only [if_true]
    by_cases h8 : h.length = 8
    · rw [show (((h.length : Int)) != 8) = false by simp [h8]]
      refine Ev_succ ?_
      simp only [spec_GoodAgg.j0, Bool.false_eq_true, if_false]
      refine Ev_cast (spec_GoodAgg_l0 c s mn mx h f h8 _ (fun z h0 h1 => spec_GoodAgg_fin c s mn mx h f h8 hc z h0 h1) 8 0 0 (by omega) (by omega) (by omega) (by omega)) ?_
      rw [List.drop_zero, Int.zero_add]
      by_cases hh : histOk h
      · rw [if_pos hh, decide_eq_decide]
        exact ⟨fun ht => ⟨hc, h8, hh, ht⟩, fun hg => hg.2.2.2⟩
      · rw [if_neg hh]
        exact (decide_eq_false (fun hg => hh hg.2.2.1)).symm
    · rw [show (((h.length : Int)) != 8) = true by simp; omega]
      exact bad (fun hg => h8 hg.2.1)
  · rw [decide_eq_false hc]
    simp only [Bool.false_eq_true, if_false]
    exact bad (fun hg => hc hg.1)
theorem impl_GoodAgg_l0 (c s mn mx : Int) (h : List Int) (f : Bool) (h8 : h.length = 8) (R : Int → Bool) (fin : ∀ z : Int, 0 ≤ z → z ≤ 8000000000 → Ev (fun k => impl_GoodAgg.l0 k z h (h.length : Int) (8 : Int) c s mn mx h f) (R z)) :
    ∀ (d i : Nat) (z : Int), 8 - i = d → i ≤ 8 → 0 ≤ z → z ≤ 1000000000 * i → Ev (fun k => impl_GoodAgg.l0 k z h (h.length : Int) (i : Int) c s mn mx h f) (if histOk (h.drop i) then R (z + sum8 (h.drop i)) else false) := by
  intro d
  induction d with
  | zero =>
    intro i z hd hi h0 h1
    obtain rfl : i = 8 := by omega
    rw [List.drop_eq_nil_of_le (by omega), if_pos (show histOk [] from fun x hx => by cases hx)]
    simp only [sum8, Int.add_zero]
    exact fin z h0 (by omega)
  | succ d ih =>
    intro i z hd hi h0 h1
    refine Ev_succ ?_
    simp only [impl_GoodAgg.l0]
    simp only [if_pos (show (i : Int) < (h.length : Int) by omega), if_pos (show 0 ≤ (i : Int) by omega)]
    rw [rd_lt (by omega), drop_cons (l := h) (i := i) (by omega)]
    refine Ev.bind (Ev_some (within_eq _ _ _)) ?_
    by_cases hx : 0 ≤ h[i]'(by omega) ∧ h[i]'(by omega) ≤ 1000000000
    · rw [decide_eq_true hx]
      simp only [if_true]
      rw [w64 (n := (i : Int) + 1) (by omega) (by omega), w64 (by omega) (by omega)]
      refine Ev_cast (ih (i + 1) _ (by omega) (by omega) (by omega) (by omega)) ?_
      by_cases hr : histOk (h.drop (i + 1))
      · rw [if_pos hr, if_pos ((histOk_cons _ _).2 ⟨hx, hr⟩)]
        simp only [sum8]
        rw [Int.add_assoc]
      · rw [if_neg hr, if_neg (fun hh => hr ((histOk_cons _ _).1 hh).2)]
    · rw [decide_eq_false hx, if_neg (fun hh => hx ((histOk_cons _ _).1 hh).1)]
      simp only [Bool.false_eq_true, if_false]
      exact Ev.now _
theorem impl_GoodAgg_j3 (c s mn mx : Int) (h : List Int) (f : Bool) (z : Int) (b : Bool) (hb : b = true ↔ ¬ ((f = true ∧ s = 0) ∨ (f = false ∧ z = c ∧ -1000000000 * c ≤ s ∧ s ≤ 1000000000 * c))) :
    Ev (fun k => impl_GoodAgg.j3 k z b c s mn mx h f) (decide (aggTail c s mn mx f z)) := by
  refine Ev_succ ?_
  simp only [impl_GoodAgg.j3]
  cases b with
  | true =>
    simp only [if_true]
    refine Ev_cast (Ev.now _) (decide_eq_false ?_).symm
    have hn := hb.1 rfl
    rintro (hh | hh)
    · exact hn (.inr ⟨hh.2.2.2.2.2, by omega, by omega, by omega⟩)
    · exact hn hh.2.2.2.2
  | false =>
    have hy : (f = true ∧ s = 0) ∨ (f = false ∧ z = c ∧ -1000000000 * c ≤ s ∧ s ≤ 1000000000 * c) := by
      by_cases hy : (f = true ∧ s = 0) ∨ (f = false ∧ z = c ∧ -1000000000 * c ≤ s ∧ s ≤ 1000000000 * c)
      · exact hy
      · exact absurd (hb.2 hy) (by simp)
    simp only [Bool.false_eq_true, if_false]
    by_cases e0 : c = 0
    · simp only [if_pos e0]
      by_cases e2 : mn = 0
      · simp only [if_pos e2]
        by_cases e3 : mx = 0
        · simp only [if_pos e3]
          by_cases e1 : z = 0
          · simp only [if_pos e1]
            refine Ev_cast (Ev.now _) ?_
            rw [Bool.eq_iff_iff, decide_eq_true_eq, Bool.not_eq_true']
            refine ⟨fun hf => .inl ⟨e0, e1, e2, e3, ?_, hf⟩, ?_⟩
            · rcases hy with hy | hy
              · rw [hf] at hy; cases hy.1
              · omega
            · rintro (hh | hh)
              · exact hh.2.2.2.2.2
              · exact absurd e0 hh.1
          · simp only [if_neg e1]
            exact Ev_cast (Ev.now _) (by simp [aggTail, e0, e1])
        · simp only [if_neg e3]
          exact Ev_cast (Ev.now _) (by simp [aggTail, e0, e3])
      · simp only [if_neg e2]
        exact Ev_cast (Ev.now _) (by simp [aggTail, e0, e2])
    · simp only [if_neg e0]
      refine Ev.bind (Ev_some (isValue_eq _)) ?_
      by_cases v1 : -1000000000 ≤ mn ∧ mn ≤ 1000000000
      · rw [decide_eq_true v1]
        simp only [if_true]
        refine Ev.bind (Ev_some (isValue_eq _)) ?_
        by_cases v2 : -1000000000 ≤ mx ∧ mx ≤ 1000000000
        · rw [decide_eq_true v2]
          simp only [if_true]
          refine Ev_cast (Ev.now _) ?_
          rw [decide_eq_decide]
          rw [aggTail_pos e0]
          exact ⟨fun hm => ⟨v1, v2, hm, hy⟩, fun hh => hh.2.2.1⟩
        · rw [decide_eq_false v2]
          simp only [Bool.false_eq_true, if_false]
          exact Ev_cast (Ev.now _) (decide_eq_false (fun hh => v2 ((aggTail_pos e0).1 hh).2.1)).symm
      · rw [decide_eq_false v1]
        simp only [Bool.false_eq_true, if_false]
        exact Ev_cast (Ev.now _) (decide_eq_false (fun hh => v1 ((aggTail_pos e0).1 hh).1)).symm
theorem impl_GoodAgg_j2 (c s mn mx : Int) (h : List Int) (f : Bool) (hc : 0 ≤ c ∧ c ≤ 1000000000) (z : Int) (b : Bool) (hb : b = true ↔ (f = true ∧ s ≠ 0)) :
    Ev (fun k => impl_GoodAgg.j2 k z b c s mn mx h f) (decide (aggTail c s mn mx f z)) := by
  refine Ev_succ ?_
  simp only [impl_GoodAgg.j2]
  cases b with
  | true =>
    simp only [if_true]
    obtain ⟨hf, hs⟩ := hb.1 rfl
    refine Ev_cast (Ev.now _) (decide_eq_false ?_).symm
    rintro (hh | hh)
    · exact hs hh.2.2.2.2.1
    · rcases hh.2.2.2.2 with hz | hz
      · exact hs hz.2
      · rw [hf] at hz; cases hz.1
  | false =>
    have hy : ¬ (f = true ∧ s ≠ 0) := fun hh => by have := hb.2 hh; cases this
    simp only [Bool.false_eq_true, if_false]
    cases f with
    | true =>
      simp only [if_true]
      refine impl_GoodAgg_j3 c s mn mx h true z false ⟨fun hh => (by cases hh), fun hh => ?_⟩
      exact absurd (Or.inl ⟨rfl, Decidable.byContradiction fun hs => hy ⟨rfl, hs⟩⟩) hh
    | false =>
      simp only [Bool.false_eq_true, if_false]
      by_cases e5 : z = c
      · simp only [if_pos e5]
        refine Ev.bind (Ev_some (within_eq _ _ _)) ?_
        rw [w64 (by omega) (by omega), w64 (by omega) (by omega)]
        refine impl_GoodAgg_j3 c s mn mx h false z _ ?_
        rw [Bool.not_eq_true', decide_eq_false_iff_not]
        simp [e5]
      · simp only [if_neg e5]
        refine impl_GoodAgg_j3 c s mn mx h false z true ?_
        simp [e5]
theorem impl_GoodAgg_fin (c s mn mx : Int) (h : List Int) (f : Bool) (h8 : h.length = 8) (hc : 0 ≤ c ∧ c ≤ 1000000000) (z : Int) (h0 : 0 ≤ z) (h1 : z ≤ 8000000000) :
    Ev (fun k => impl_GoodAgg.l0 k z h (h.length : Int) (8 : Int) c s mn mx h f) (decide (aggTail c s mn mx f z)) := by
  refine Ev_succ ?_
  simp only [impl_GoodAgg.l0]
  simp only [if_neg (show ¬ (8 : Int) < (h.length : Int) by omega)]
  cases f with
  | true =>
    simp only [if_true]
    exact impl_GoodAgg_j2 c s mn mx h true hc z _ (by simp)
  | false =>
    simp only [Bool.false_eq_true, if_false]
    exact impl_GoodAgg_j2 c s mn mx h false hc z _ (by simp)
theorem impl_GoodAgg_ev (c s mn mx : Int) (h : List Int) (f : Bool) : Ev (fun k => impl_GoodAgg.f k c s mn mx h f) (decide (goodAgg c s mn mx h f)) := by
  unfold impl_GoodAgg.f
  have bad : ¬ goodAgg c s mn mx h f → Ev (fun k => impl_GoodAgg.j0 k true c s mn mx h f) (decide (goodAgg c s mn mx h f)) := by
    intro hn
    refine Ev_succ ?_
    simp only [impl_GoodAgg.j0, if_true]
    exact Ev_cast (Ev.now _) (decide_eq_false hn).symm
  refine Ev.bind (Ev_some (within_eq _ _ _)) ?_
  by_cases hc : 0 ≤ c ∧ c ≤ 1000000000
  · rw [decide_eq_true hc]
    simp only [if_true]
    by_cases h8 : h.length = 8
    · rw [show (((h.length : Int)) != 8) = false by simp [h8]]
      refine Ev_succ ?_
      simp only [impl_GoodAgg.j0, Bool.false_eq_true, if_false]
      refine Ev_cast (impl_GoodAgg_l0 c s mn mx h f h8 _ (fun z h0 h1 => impl_GoodAgg_fin c s mn mx h f h8 hc z h0 h1) 8 0 0 (by omega) (by omega) (by omega) (by omega)) ?_
      rw [List.drop_zero, Int.zero_add]
      by_cases hh : histOk h
      · rw [if_pos hh, decide_eq_decide]
        exact ⟨fun ht => ⟨hc, h8, hh, ht⟩, fun hg => hg.2.2.2⟩
      · rw [if_neg hh]
        exact (decide_eq_false (fun hg => hh hg.2.2.1)).symm
    · rw [show (((h.length : Int)) != 8) = true by simp; omega]
      exact bad (fun hg => h8 hg.2.1)
  · rw [decide_eq_false hc]
    simp only [Bool.false_eq_true, if_false]
    exact bad (fun hg => hc hg.1)
def zeroAgg (c s mn mx : Int) (h : List Int) (f : Bool) : Prop := c = 0 ∧ s = 0 ∧ mn = 0 ∧ mx = 0 ∧ h.length = 0 ∧ f = false
instance (c s mn mx : Int) (h : List Int) (f : Bool) : Decidable (zeroAgg c s mn mx h f) := inferInstanceAs (Decidable (_ ∧ _))
def goodEntry (key : ByteArray) (seq kind c s mn mx : Int) (h : List Int) (f : Bool) : Prop :=
  (1 ≤ key.size ∧ key.size ≤ 140) ∧ (1 ≤ seq ∧ seq ≤ 1000000000) ∧ ((kind = 2 ∧ zeroAgg c s mn mx h f) ∨ ((kind = 1 ∨ kind = 3) ∧ goodAgg c s mn mx h f))
instance (key : ByteArray) (seq kind c s mn mx : Int) (h : List Int) (f : Bool) : Decidable (goodEntry key seq kind c s mn mx h f) := inferInstanceAs (Decidable (_ ∧ _))
theorem spec_l5Zero_eq (c s mn mx : Int) (h : List Int) (f : Bool) : spec_l5Zero.f c s mn mx h f = some (decide (zeroAgg c s mn mx h f)) := by
  unfold spec_l5Zero.f zeroAgg
  by_cases e0 : c = 0
  · by_cases e1 : s = 0
    · by_cases e2 : mn = 0
      · by_cases e3 : mx = 0
        · by_cases e4 : h.length = 0
          · cases f <;> simp [e0, e1, e2, e3, e4]
          · rw [if_pos e0, if_pos e1, if_pos e2, if_pos e3, if_neg (by omega)]; simp [e4]
        · simp [e0, e1, e2, e3]
      · simp [e0, e1, e2]
    · simp [e0, e1]
  · simp [e0]
theorem spec_GoodEntry_ev (key : ByteArray) (seq kind c s mn mx : Int) (h : List Int) (f : Bool) : Ev (fun k => spec_GoodEntry.f k key seq kind c s mn mx h f) (decide (goodEntry key seq kind c s mn mx h f)) := by
  unfold spec_GoodEntry.f
  have bad : ¬ goodEntry key seq kind c s mn mx h f → Ev (fun k => spec_GoodEntry.j0 k true key seq kind c s mn mx h f) (decide (goodEntry key seq kind c s mn mx h f)) := by
    intro hn
    refine Ev_succ ?_
    simp only [spec_GoodEntry.j0, if_true]
    exact Ev_cast (Ev.now _) (decide_eq_false hn).symm
  refine Ev.bind (Ev_some (l1In_eq _ _ _)) ?_
  by_cases h1 : 1 ≤ (key.size : Int) ∧ (key.size : Int) ≤ 140
  · rw [decide_eq_true h1]
    simp only [if_true]
    refine Ev.bind (Ev_some (l1In_eq _ _ _)) ?_
    by_cases h2 : 1 ≤ seq ∧ seq ≤ 1000000000
    · rw [decide_eq_true h2, Bool.not_true]
      refine Ev_succ ?_
      simp only [spec_GoodEntry.j0, Bool.false_eq_true, if_false]
      have hk : ∀ b : Bool, (b = true ↔ (kind = 1 ∨ kind = 3)) → Ev (fun k => spec_GoodEntry.j1 k kind b key seq kind c s mn mx h f) (decide (goodEntry key seq kind c s mn mx h f)) := by
        intro b hb
        refine Ev_succ ?_
        simp only [spec_GoodEntry.j1]
        cases b with
        | true =>
          have hk := hb.1 rfl
          simp only [if_true]
          refine Ev.bind (spec_GoodAgg_ev c s mn mx h f) ?_
          refine Ev_cast (Ev.now _) ?_
          rw [decide_eq_decide]
          constructor
          · intro hg
            exact ⟨by omega, h2, .inr ⟨hk, hg⟩⟩
          · intro hg
            rcases hg.2.2 with hz | hz
            · omega
            · exact hz.2
        | false =>
          have hk : ¬ (kind = 1 ∨ kind = 3) := fun hh => by have := hb.2 hh; cases this
          simp only [Bool.false_eq_true, if_false]
          by_cases k2 : kind = 2
          · simp only [if_pos k2]
            refine Ev.bind (Ev_some (spec_l5Zero_eq c s mn mx h f)) ?_
            refine Ev_cast (Ev.now _) ?_
            rw [decide_eq_decide]
            constructor
            · intro hg
              exact ⟨by omega, h2, .inl ⟨k2, hg⟩⟩
            · intro hg
              rcases hg.2.2 with hz | hz
              · exact hz.2
              · exact absurd hz.1 hk
          · simp only [if_neg k2]
            refine Ev_cast (Ev.now _) (decide_eq_false ?_).symm
            intro hg
            rcases hg.2.2 with hz | hz
            · exact k2 hz.1
            · exact hk hz.1
      by_cases k1 : kind = 1
      · simp only [if_pos k1]
        exact hk _ (by simp [k1])
      · simp only [if_neg k1]
        exact hk _ (by simp [k1])
    · rw [decide_eq_false h2, Bool.not_false]
      exact bad (fun hg => h2 hg.2.1)
  · rw [decide_eq_false h1]
    simp only [Bool.false_eq_true, if_false]
    exact bad (fun hg => h1 (by have := hg.1; omega))
theorem impl_Agg_isZero_eq (c s mn mx : Int) (h : List Int) (f : Bool) : impl_Agg_isZero.f c s mn mx h f = some (decide (zeroAgg c s mn mx h f)) := by
  unfold impl_Agg_isZero.f zeroAgg
  by_cases e0 : c = 0
  · by_cases e1 : s = 0
    · by_cases e2 : mn = 0
      · by_cases e3 : mx = 0
        · by_cases e4 : h.length = 0
          · cases f <;> simp [e0, e1, e2, e3, e4]
          · rw [if_pos e0, if_pos e1, if_pos e2, if_pos e3, if_neg (by omega)]; simp [e4]
        · simp [e0, e1, e2, e3]
      · simp [e0, e1, e2]
    · simp [e0, e1]
  · simp [e0]
theorem isKeyText_eq (s : ByteArray) : impl_isKeyText.f s = some (decide (1 ≤ s.size ∧ s.size ≤ 140)) := by
  unfold impl_isKeyText.f
  rw [within_eq, Option.bind_some]
  congr 1
  rw [decide_eq_decide]
  omega
theorem impl_GoodEntry_ev (key : ByteArray) (seq kind c s mn mx : Int) (h : List Int) (f : Bool) : Ev (fun k => impl_GoodEntry.f k key seq kind c s mn mx h f) (decide (goodEntry key seq kind c s mn mx h f)) := by
  unfold impl_GoodEntry.f
  have bad : ¬ goodEntry key seq kind c s mn mx h f → Ev (fun k => impl_GoodEntry.j0 k true key seq kind c s mn mx h f) (decide (goodEntry key seq kind c s mn mx h f)) := by
    intro hn
    refine Ev_succ ?_
    simp only [impl_GoodEntry.j0, if_true]
    exact Ev_cast (Ev.now _) (decide_eq_false hn).symm
  refine Ev.bind (Ev_some (isKeyText_eq _)) ?_
  by_cases h1 : 1 ≤ key.size ∧ key.size ≤ 140
  · rw [decide_eq_true h1]
    simp only [if_true]
    refine Ev.bind (Ev_some (within_eq _ _ _)) ?_
    by_cases h2 : 1 ≤ seq ∧ seq ≤ 1000000000
    · rw [decide_eq_true h2, Bool.not_true]
      refine Ev_succ ?_
      simp only [impl_GoodEntry.j0, Bool.false_eq_true, if_false]
      have agg : (kind = 1 ∨ kind = 3) → Ev (fun k => (impl_GoodAgg.f k c s mn mx h f).bind fun t => some t) (decide (goodEntry key seq kind c s mn mx h f)) := by
        intro hk
        refine Ev.bind (impl_GoodAgg_ev c s mn mx h f) ?_
        refine Ev_cast (Ev.now _) ?_
        rw [decide_eq_decide]
        constructor
        · intro hg
          exact ⟨h1, h2, .inr ⟨hk, hg⟩⟩
        · intro hg
          rcases hg.2.2 with hz | hz
          · omega
          · exact hz.2
      by_cases k2 : kind = 2
      · simp only [if_pos k2]
        refine Ev.bind (Ev_some (impl_Agg_isZero_eq c s mn mx h f)) ?_
        refine Ev_cast (Ev.now _) ?_
        rw [decide_eq_decide]
        constructor
        · intro hg
          exact ⟨h1, h2, .inl ⟨k2, hg⟩⟩
        · intro hg
          rcases hg.2.2 with hz | hz
          · exact hz.2
          · omega
      · simp only [if_neg k2]
        by_cases k1 : kind = 1
        · simp only [if_pos k1]; exact agg (.inl k1)
        · simp only [if_neg k1]
          by_cases k3 : kind = 3
          · simp only [if_pos k3]; exact agg (.inr k3)
          · simp only [if_neg k3]
            refine Ev_cast (Ev.now _) (decide_eq_false ?_).symm
            intro hg
            rcases hg.2.2 with hz | hz
            · exact k2 hz.1
            · rcases hz.1 with hz | hz
              · exact k1 hz
              · exact k3 hz
    · rw [decide_eq_false h2, Bool.not_false]
      exact bad (fun hg => h2 hg.2.1)
  · rw [decide_eq_false h1]
    simp only [Bool.false_eq_true, if_false]
    exact bad (fun hg => h1 hg.1)
theorem rd55_lt {l : List S45} {i : Nat} (h : i < l.length) : rd_T45 l (i : Int) = l[i] := by simp [rd_T45, h]
theorem rd51_lt {l : List S51} {i : Nat} (h : i < l.length) : rd_T51 l (i : Int) = l[i] := by simp [rd_T51, h]
def toE (x : S45) : S51 := ⟨x.f0, x.f1, x.f2, ⟨x.f3.f0, x.f3.f1, x.f3.f2, x.f3.f3, x.f3.f4, x.f3.f5⟩⟩
theorem szEntry_eq (key : ByteArray) (seq kind c s mn mx : Int) (h : List Int) (f : Bool) (a : Int) (h0 : 0 ≤ a) (h1 : a ≤ 1048576) (hk : key.size ≤ 9223372036854775807) (hl : h.length ≤ 9223372036854775807) :
    ∃ z, laws_szEntry.f key seq kind c s mn mx h f a = some z ∧ (z < 0 ∨ (0 ≤ z ∧ z ≤ a ∧ h.length ≤ 1048576 ∧ key.size ≤ 1048576)) := by
  unfold laws_szEntry.f
  rw [w64 (by omega) (by omega)]
  by_cases hh : a - (key.size : Int) < 0
  · exact ⟨-1, by rw [if_pos hh], .inl (by omega)⟩
  · rw [if_neg hh]
    unfold laws_szAgg.f
    rw [szIntS_eq h (a - key.size) (by omega) (by omega) hl]
    simp only [Option.bind_some]
    by_cases hn : a - (key.size : Int) - h.length < 0
    · exact ⟨-1, by rw [if_pos hn]; rfl, .inl (by omega)⟩
    · refine ⟨a - (key.size : Int) - h.length, ?_, .inr ⟨by omega, by omega, by omega, by omega⟩⟩
      rw [if_neg hn, if_neg hn]
      simp only [Option.bind_some]
      rw [if_neg hn]
theorem szEntryS_gen (l : List S45) (a0 : Int) (ha0 : 0 ≤ a0) (ha1 : a0 ≤ 1048576) (hl : l.length ≤ 9223372036854775807) (hs : ∀ x ∈ l, x.f0.size ≤ 9223372036854775807 ∧ x.f3.f4.length ≤ 9223372036854775807) :
    ∃ z, Ev (fun k => laws_szEntryS.f k l a0) z ∧ (z < 0 ∨ (0 ≤ z ∧ z ≤ 1048576 ∧ l.length ≤ 1048576 ∧ ∀ x ∈ l, x.f3.f4.length ≤ 1048576)) := by
  have loop : ∀ (d i : Nat) (a : Int), l.length - i = d → i ≤ l.length → l.length ≤ 1048576 → 0 ≤ a → a ≤ 1048576 → ∃ z, Ev (fun k => laws_szEntryS.l0 k l a (i : Int)) z ∧ (z < 0 ∨ (0 ≤ z ∧ z ≤ a ∧ ∀ x ∈ l.drop i, x.f3.f4.length ≤ 1048576)) := by
    intro d
    induction d with
    | zero =>
      intro i a hd hi hl2 h0 h1
      refine ⟨a, Ev_succ ?_, .inr ⟨h0, Int.le_refl _, by rw [List.drop_eq_nil_of_le (by omega)]; intro s hs; cases hs⟩⟩
      simp only [laws_szEntryS.l0]
      simp only [if_neg (show ¬ (i : Int) < (l.length : Int) by omega)]
      exact Ev.now _
    | succ d ih =>
      intro i a hd hi hl2 h0 h1
      have hx := hs (l[i]'(by omega)) (List.getElem_mem _)
      obtain ⟨z1, hz1, hz2⟩ := szEntry_eq (l[i]'(by omega)).f0 (l[i]'(by omega)).f1 (l[i]'(by omega)).f2 (l[i]'(by omega)).f3.f0 (l[i]'(by omega)).f3.f1 (l[i]'(by omega)).f3.f2 (l[i]'(by omega)).f3.f3 (l[i]'(by omega)).f3.f4 (l[i]'(by omega)).f3.f5 a h0 h1 hx.1 hx.2
      by_cases hn : z1 < 0
      · refine ⟨-1, Ev_succ ?_, .inl (by omega)⟩
        simp only [laws_szEntryS.l0]
        simp only [if_pos (show (i : Int) < (l.length : Int) by omega), if_pos (show 0 ≤ (i : Int) by omega)]
        rw [rd55_lt (by omega)]
        refine Ev.bind (Ev_some hz1) ?_
        simp only [if_pos hn]
        exact Ev.now _
      · obtain ⟨g0, g1, g2, _⟩ := hz2.resolve_left hn
        obtain ⟨z, hz, hz3⟩ := ih (i + 1) z1 (by omega) (by omega) hl2 g0 (by omega)
        refine ⟨z, Ev_succ ?_, ?_⟩
        · simp only [laws_szEntryS.l0]
          simp only [if_pos (show (i : Int) < (l.length : Int) by omega), if_pos (show 0 ≤ (i : Int) by omega)]
          rw [rd55_lt (by omega), w64 (n := (i : Int) + 1) (by omega) (by omega)]
          refine Ev.bind (Ev_some hz1) ?_
          simp only [if_neg hn]
          exact hz
        · rcases hz3 with h | h
          · exact .inl h
          · refine .inr ⟨h.1, by omega, ?_⟩
            rw [List.drop_eq_getElem_cons (by omega)]
            intro x hx
            rcases List.mem_cons.1 hx with rfl | hx
            · exact g2
            · exact h.2.2 x hx
  unfold laws_szEntryS.f
  rw [w64 (by omega) (by omega)]
  by_cases hn : a0 - l.length < 0
  · exact ⟨-1, by simp only [if_pos hn]; exact Ev.now _, .inl (by omega)⟩
  · simp only [if_neg hn]
    obtain ⟨z, hz, hz2⟩ := loop l.length 0 (a0 - l.length) (by omega) (by omega) (by omega) (by omega) (by omega)
    exact ⟨z, hz, hz2.imp id (fun h => ⟨h.1, by omega, by omega, by simpa using h.2.2⟩)⟩
theorem szEntryS_ev (l : List S45) (hl : l.length ≤ 9223372036854775807) (hs : ∀ x ∈ l, x.f0.size ≤ 9223372036854775807 ∧ x.f3.f4.length ≤ 9223372036854775807) :
    ∃ z, Ev (fun k => laws_szEntryS.f k l 1048576) z ∧ (z < 0 ∨ (l.length ≤ 1048576 ∧ ∀ x ∈ l, x.f3.f4.length ≤ 1048576)) := by
  obtain ⟨z, h1, h2⟩ := szEntryS_gen l 1048576 (by omega) (by omega) hl hs
  exact ⟨z, h1, h2.imp id (fun h => h.2.2)⟩
theorem toEntry_ev (key : ByteArray) (seq kind c s mn mx : Int) (h : List Int) (f : Bool) (hl : h.length ≤ 1048576) : Ev (fun k => laws_toEntry.f k key seq kind c s mn mx h f) (key, seq, kind, c, s, mn, mx, h, f) := by
  unfold laws_toEntry.f
  exact Ev.bind (toAgg_ev c s mn mx h f hl) (Ev.now _)
theorem eqEntry_same (key : ByteArray) (seq kind c s mn mx : Int) (h : List Int) (f : Bool) (hl : h.length ≤ 1048576) : Ev (fun k => laws_eqEntry.f k key seq kind c s mn mx h f key seq kind c s mn mx h f) true := by
  unfold laws_eqEntry.f
  simp only [if_true]
  exact Ev.bind (eqAgg_same c s mn mx h f hl) (Ev_cast (by simp only [if_true]; exact Ev.now _) rfl)
theorem toEntryS_l0 (l : List S45) (hs : ∀ x ∈ l, x.f3.f4.length ≤ 1048576) : ∀ (d i : Nat) (o : List S51), l.length - i = d → i ≤ l.length → l.length ≤ 1048576 → o.length = l.length → o.take i = (l.map toE).take i →
    Ev (fun k => laws_toEntryS.l0 k l o (i : Int)) (l.map toE) := by
  intro d
  induction d with
  | zero =>
    intro i o hd hi hl ho ht
    refine Ev_succ ?_
    simp only [laws_toEntryS.l0]
    simp only [if_neg (show ¬ (i : Int) < (l.length : Int) by omega)]
    exact Ev_cast (Ev.now _) (by rw [List.take_of_length_le (by omega), List.take_of_length_le (by simp; omega)] at ht; exact ht)
  | succ d ih =>
    intro i o hd hi hl ho ht
    refine Ev_succ ?_
    have hx := hs (l[i]'(by omega)) (List.getElem_mem _)
    simp only [laws_toEntryS.l0]
    simp only [if_pos (show (i : Int) < (l.length : Int) by omega), if_pos (show 0 ≤ (i : Int) by omega), if_pos (show (i : Int) < (o.length : Int) by omega)]
    rw [rd55_lt (by omega), w64 (by omega) (by omega)]
    refine Ev.bind (toEntry_ev _ _ _ _ _ _ _ _ _ hx) ?_
    refine ih (i + 1) _ (by omega) (by omega) hl (by simpa using ho) ?_
    apply List.ext_getElem?
    intro j
    rw [List.getElem?_take, List.getElem?_take]
    by_cases h1 : j < i
    · have := congrArg (fun x => x[j]?) ht
      simp only [List.getElem?_take, if_pos h1] at this
      rw [if_pos (by omega), if_pos (by omega), List.getElem?_set]
      simp only [Int.toNat_natCast]
      rw [if_neg (by omega), this]
    · by_cases h2 : j = i
      · subst h2
        rw [if_pos (by omega), if_pos (by omega), List.getElem?_set]
        simp only [Int.toNat_natCast, if_true]
        rw [if_pos (by omega)]
        simp [show j < l.length by omega, toE]
      · rw [if_neg (by omega), if_neg (by omega)]
theorem toEntryS_ev (l : List S45) (hl : l.length ≤ 1048576) (hs : ∀ x ∈ l, x.f3.f4.length ≤ 1048576) : Ev (fun k => laws_toEntryS.f k l) (l.map toE) := by
  unfold laws_toEntryS.f
  simp only [if_pos (show 0 ≤ (l.length : Int) by omega), Int.toNat_natCast, if_pos (show l.length ≤ 2932031007402 by omega)]
  exact toEntryS_l0 l hs l.length 0 _ (by omega) (by omega) (by omega) (by simp) (by simp)
theorem eqEntryS_same (l : List S51) (hl : l.length ≤ 1048576) (hs : ∀ x ∈ l, x.f3.f4.length ≤ 1048576) : Ev (fun k => laws_eqEntryS.f k l l) true := by
  have loop : ∀ (d i : Nat), l.length - i = d → i ≤ l.length → Ev (fun k => laws_eqEntryS.l0 k l l (i : Int)) true := by
    intro d
    induction d with
    | zero =>
      intro i hd hi
      refine Ev_succ ?_
      simp only [laws_eqEntryS.l0]
      simp only [if_neg (show ¬ (i : Int) < (l.length : Int) by omega)]
      exact Ev.now _
    | succ d ih =>
      intro i hd hi
      refine Ev_succ ?_
      simp only [laws_eqEntryS.l0]
      simp only [if_pos (show (i : Int) < (l.length : Int) by omega), if_pos (show 0 ≤ (i : Int) by omega)]
      rw [rd51_lt (by omega), w64 (by omega) (by omega)]
      refine Ev.bind (eqEntry_same _ _ _ _ _ _ _ _ _ (hs _ (List.getElem_mem _))) ?_
      simp only [if_true]
      exact ih (i + 1) (by omega) (by omega)
  unfold laws_eqEntryS.f
  simp only [if_true]
  exact loop l.length 0 (by omega) (by omega)
theorem toE_hist (l : List S45) (hs : ∀ x ∈ l, x.f3.f4.length ≤ 1048576) : ∀ x ∈ l.map toE, x.f3.f4.length ≤ 1048576 := by
  intro x hx
  obtain ⟨y, hy, rfl⟩ := List.mem_map.1 hx
  exact hs y hy
def eBefore (a b : S51) : Bool := decide (Op.bytesLess a.f0.toList b.f0.toList = true ∨ (a.f0.toList = b.f0.toList ∧ b.f1 < a.f1))
def eGood (e : S51) : Bool := decide (goodEntry e.f0 e.f1 e.f2 e.f3.f0 e.f3.f1 e.f3.f2 e.f3.f3 e.f3.f4 e.f3.f5)
def stepOk (m : List S51) (i : Nat) : Bool := eGood (rd_T51 m (i : Int)) && (decide (i = 0) || eBefore (rd_T51 m ((i - 1 : Nat) : Int)) (rd_T51 m (i : Int)))
def okFrom (m : List S51) : Nat → Nat → Bool
  | 0, _ => true
  | d + 1, i => stepOk m i && okFrom m d (i + 1)
def seqsOf (m : List S51) : List Int := m.map (·.f1)
def goodEntries (m : List S51) : Bool := okFrom m m.length 0 && decide ((seqsOf m).Nodup)
theorem less_irrefl (a : List UInt8) : Op.bytesLess a a = false := by
  have := bytesLess_tri a a
  cases h : Op.bytesLess a a
  · rfl
  · rw [h, Bool.true_or] at this; cases this
theorem spec_l5Before_eq (a b : S51) : spec_l5Before.f a.f0 a.f1 a.f2 a.f3.f0 a.f3.f1 a.f3.f2 a.f3.f3 a.f3.f4 a.f3.f5 b.f0 b.f1 b.f2 b.f3.f0 b.f3.f1 b.f3.f2 b.f3.f3 b.f3.f4 b.f3.f5 = some (eBefore a b) := by
  unfold spec_l5Before.f eBefore
  by_cases h1 : Op.bytesLess a.f0.toList b.f0.toList = true
  · rw [if_pos h1, decide_eq_true (.inl h1)]
  · rw [if_neg h1]
    by_cases h2 : a.f0.toList = b.f0.toList
    · rw [if_pos h2]
      congr 1
      rw [decide_eq_decide]
      constructor
      · intro h; exact .inr ⟨h2, h⟩
      · rintro (h | ⟨_, h⟩)
        · exact absurd h h1
        · exact h
    · rw [if_neg h2]
      simp [h1, h2]
def nodFrom (s : List Int) : Nat → Nat → Bool
  | 0, _ => true
  | d + 1, i => !((s.take i).contains (rd s (i : Int))) && nodFrom s d (i + 1)
theorem nodFrom_eq (s : List Int) : ∀ (d i : Nat), s.length - i = d → i ≤ s.length → (decide ((s.take i).Nodup) && nodFrom s d i) = decide s.Nodup := by
  intro d
  induction d with
  | zero =>
    intro i hd hi
    rw [List.take_of_length_le (by omega)]
    simp [nodFrom]
  | succ d ih =>
    intro i hd hi
    have hlt : i < s.length := by omega
    rw [← ih (i + 1) (by omega) (by omega)]
    simp only [nodFrom]
    rw [← Bool.and_assoc, rd_lt hlt]
    congr 1
    rw [List.take_succ_eq_append_getElem hlt]
    rw [Bool.eq_iff_iff]
    simp only [Bool.and_eq_true, decide_eq_true_eq, Bool.not_eq_true', List.nodup_append]
    constructor
    · rintro ⟨h1, h2⟩
      refine ⟨h1, by simp, ?_⟩
      intro x hx y hy e
      rw [List.mem_singleton] at hy
      subst hy; subst e
      have : (s.take i).contains s[i] = true := by rw [List.contains_iff_mem]; exact hx
      rw [this] at h2; cases h2
    · rintro ⟨h1, _, h3⟩
      refine ⟨h1, ?_⟩
      rw [Bool.eq_false_iff]
      intro hc
      rw [List.contains_iff_mem] at hc
      exact h3 _ hc _ (List.mem_singleton.2 rfl) rfl
theorem spec_GoodEntries_nod (s : List Int) : ∀ d i, spec_GoodEntries.nod s d i = nodFrom s d i := by
  intro d
  induction d with
  | zero => intro i; rfl
  | succ d ih => intro i; simp only [spec_GoodEntries.nod, nodFrom, ih]
theorem spec_GoodEntries_fin (m : List S51) (hm : m.length ≤ 1048576) : Ev (fun k => spec_GoodEntries.fin k (seqsOf m)) (decide ((seqsOf m).Nodup)) := by
  unfold spec_GoodEntries.fin
  refine Ev_cast (Ev.now _) ?_
  rw [spec_GoodEntries_nod]
  have := nodFrom_eq (seqsOf m) _ 0 rfl (by omega)
  simp only [List.take_zero] at this
  rw [← this]
  simp
theorem spec_GoodEntries_ok (m : List S51) (i : Nat) : Ev (fun k => spec_GoodEntries.ok k m i) (stepOk m i) := by
  unfold spec_GoodEntries.ok spec_GoodEntries.g
  refine Ev.bind (spec_GoodEntry_ev _ _ _ _ _ _ _ _ _) ?_
  by_cases hg : eGood (rd_T51 m (i : Int)) = true
  · have hg2 := hg
    unfold eGood at hg2
    simp only [if_pos hg2]
    by_cases h0 : i = 0
    · simp only [if_pos h0]
      exact Ev_cast (Ev.now _) (by unfold stepOk; rw [hg, decide_eq_true h0]; rfl)
    · simp only [if_neg h0]
      unfold spec_GoodEntries.bf
      exact Ev_cast (Ev_some (spec_l5Before_eq _ _)) (by unfold stepOk; rw [hg, decide_eq_false h0]; simp)
  · have hg2 := hg
    unfold eGood at hg2
    simp only [if_neg hg2]
    exact Ev_cast (Ev.now _) (by unfold stepOk; rw [Bool.eq_false_iff.mpr hg, Bool.false_and])
theorem spec_GoodEntries_ev (m : List S51) (hm : m.length ≤ 1048576) : Ev (fun k => spec_GoodEntries.f k m) (goodEntries m) := by
  have loop : ∀ (d i : Nat), m.length - i = d → i ≤ m.length → Ev (fun k => spec_GoodEntries.scan k m d i) (okFrom m d i && decide ((seqsOf m).Nodup)) := by
    intro d
    induction d with
    | zero =>
      intro i hd hi
      simp only [spec_GoodEntries.scan, okFrom, Bool.true_and]
      exact spec_GoodEntries_fin m hm
    | succ d ih =>
      intro i hd hi
      simp only [spec_GoodEntries.scan]
      refine Ev.bind (spec_GoodEntries_ok m i) ?_
      by_cases hs : stepOk m i = true
      · simp only [if_pos hs]
        exact Ev_cast (ih (i + 1) (by omega) (by omega)) (by simp only [okFrom, hs, Bool.true_and])
      · simp only [if_neg hs]
        exact Ev_cast (Ev.now _) (by simp only [okFrom, Bool.eq_false_iff.mpr hs, Bool.false_and])
  unfold spec_GoodEntries.f
  simp only [if_pos hm]
  exact loop m.length 0 (by omega) (by omega)
theorem compact_len (t : List Int) (hs : t.Pairwise (· ≤ ·)) : (Lib.compact t).length = t.length ↔ t.Nodup := by
  have hg : ∀ j (hj : j < t.length), t.toArray[j]! = t[j] := fun j hj => by simp [hj]
  have h1 : (Lib.compact t).length = t.length ↔ ∀ j, j < t.length → Lib.keeps t.toArray j = true := by
    unfold Lib.compact Lib.compactUpTo
    rw [List.length_map]
    have := List.length_filter_eq_length_iff (p := Lib.keeps t.toArray) (l := List.range t.length)
    rw [List.length_range] at this
    rw [this]
    simp
  rw [h1, List.Nodup, List.pairwise_iff_getElem]
  rw [List.pairwise_iff_getElem] at hs
  constructor
  · intro h
    have adj : ∀ j (hj : j + 1 < t.length), t[j] < t[j + 1] := by
      intro j hj
      have hk := h (j + 1) hj
      unfold Lib.keeps at hk
      have hk2 := (of_decide_eq_true hk).resolve_left (by omega)
      rw [hg (j + 1) hj, show j + 1 - 1 = j by omega, hg j (by omega)] at hk2
      have := hs j (j + 1) (by omega) hj (by omega)
      omega
    intro i j hi hj hij
    have hj2 : j - 1 + 1 < t.length := by omega
    have a1 := adj (j - 1) hj2
    have e : j - 1 + 1 = j := by omega
    simp only [e] at a1
    by_cases hlt : i < j - 1
    · have := hs i (j - 1) hi (by omega) hlt
      show t[i] ≠ t[j]
      omega
    · have : i = j - 1 := by omega
      subst this
      show t[j - 1] ≠ t[j]
      omega
  · intro h j hj
    unfold Lib.keeps
    refine decide_eq_true ?_
    by_cases h0 : j = 0
    · exact .inl h0
    · right
      rw [hg j hj, hg (j - 1) (by omega)]
      exact fun e => h (j - 1) j (by omega) hj (by omega) e.symm
theorem sorted_compact (s : List Int) : (Lib.compact (s.mergeSort fun x y => decide (x ≤ y))).length = s.length ↔ s.Nodup := by
  have hp := List.mergeSort_perm s (fun x y => decide (x ≤ y))
  have hs : (s.mergeSort fun x y => decide (x ≤ y)).Pairwise (· ≤ ·) := by
    have := List.pairwise_mergeSort (le := fun x y : Int => decide (x ≤ y)) (fun a b c h1 h2 => by simp only [decide_eq_true_eq] at *; omega) (fun a b => by simp only [Bool.or_eq_true, decide_eq_true_eq]; omega) s
    exact this.imp (fun h => by simpa using h)
  rw [← hp.nodup_iff, ← compact_len _ hs, hp.length_eq]
theorem cmpOr2 (a b : Int) : Ev (fun k => cmp_Or_int.f k [a, b]) (if a = 0 then b else a) := by
  unfold cmp_Or_int.f
  refine Ev_succ ?_
  simp only [cmp_Or_int.l0]
  by_cases ha : a = 0
  · subst ha
    simp [rd]
    refine Ev_succ ?_
    simp only [cmp_Or_int.l0]
    by_cases hb : b = 0
    · subst hb
      simp [rd, wrap64]
      refine Ev_succ ?_
      simp only [cmp_Or_int.l0]
      simp
      exact Ev.now _
    · simp [rd, wrap64, hb]
      exact Ev.now _
  · simp [rd, ha]
    exact Ev.now _
def sCmp (a b : List UInt8) : Int := if Op.bytesLess a b = true then -1 else if Op.bytesLess b a = true then 1 else 0
def iCmp (a b : Int) : Int := if a < b then -1 else if a > b then 1 else 0
def eCmp (a b : S51) : Int := if sCmp a.f0.toList b.f0.toList = 0 then iCmp b.f1 a.f1 else sCmp a.f0.toList b.f0.toList
theorem impl_compareEntries_ev (a b : S51) : ∃ c, Ev (fun k => impl_compareEntries.f k a.f0 a.f1 a.f2 a.f3.f0 a.f3.f1 a.f3.f2 a.f3.f3 a.f3.f4 a.f3.f5 b.f0 b.f1 b.f2 b.f3.f0 b.f3.f1 b.f3.f2 b.f3.f3 b.f3.f4 b.f3.f5) c ∧ (c ≥ 0 ↔ eBefore a b = false) := by
  have h1 : cmp_Compare_string.f a.f0 b.f0 = some (sCmp a.f0.toList b.f0.toList) := by
    unfold sCmp cmp_Compare_string.f cmp_isNaN_string.f
    simp only [bne_self_eq_false, Option.bind_some, Bool.false_eq_true, if_false]
    split
    · rfl
    · split <;> rfl
  have h2 : cmp_Compare_int.f b.f1 a.f1 = some (iCmp b.f1 a.f1) := by
    unfold iCmp cmp_Compare_int.f cmp_isNaN_int.f
    simp only [bne_self_eq_false, Option.bind_some, Bool.false_eq_true, if_false]
    split
    · rfl
    · split <;> rfl
  refine ⟨eCmp a b, ?_, ?_⟩
  · unfold impl_compareEntries.f
    refine Ev.bind (Ev_some h1) ?_
    refine Ev.bind (Ev_some h2) ?_
    exact Ev.bind (cmpOr2 _ _) (Ev.now _)
  · unfold eCmp sCmp iCmp
    have tri := bytesLess_tri a.f0.toList b.f0.toList
    unfold eBefore
    rw [decide_eq_false_iff_not]
    by_cases l1 : Op.bytesLess a.f0.toList b.f0.toList = true
    · simp [l1]
    · have l1f := Bool.eq_false_iff.mpr l1
      by_cases l2 : Op.bytesLess b.f0.toList a.f0.toList = true
      · rw [l1f, l2] at tri
        have hne : ¬ a.f0.toList = b.f0.toList := by
          intro e
          rw [e] at tri
          simp at tri
        simp [l1f, l2, hne]
      · have l2f := Bool.eq_false_iff.mpr l2
        rw [l1f, l2f] at tri
        have he : a.f0.toList = b.f0.toList := by simpa using tri
        simp only [l1f, l2f, Bool.false_eq_true, if_false, if_true, he]
        by_cases h : b.f1 < a.f1
        · simp [h, less_irrefl]
        · simp only [h, if_false]
          by_cases h' : b.f1 > a.f1 <;> simp [h', less_irrefl]
theorem impl_GoodEntries_fin (m : List S51) (hm : m.length ≤ 1048576) : Ev (fun k => impl_GoodEntries.fin k (seqsOf m)) (decide ((seqsOf m).Nodup)) := by
  unfold impl_GoodEntries.fin
  have hsl : (seqsOf m).length = m.length := by simp [seqsOf]
  have hml : ((seqsOf m).mergeSort fun x y => decide (x ≤ y)).length = m.length := by rw [List.length_mergeSort, hsl]
  refine Ev.bind (Ev_some (show slices_Sort_int_int.f (seqsOf m) = some _ by unfold slices_Sort_int_int.f; rw [if_pos (by omega)])) ?_
  refine Ev.bind (Ev_some (show slices_Compact_int_int.f _ = some _ by unfold slices_Compact_int_int.f; rw [if_pos (by omega)])) ?_
  refine Ev_cast (Ev.now _) ?_
  have := sorted_compact (seqsOf m)
  rw [Bool.eq_iff_iff, beq_iff_eq, decide_eq_true_eq, ← this]
  omega
theorem impl_GoodEntries_ok (m : List S51) (i : Nat) : Ev (fun k => impl_GoodEntries.ok k m i) (stepOk m i) := by
  unfold impl_GoodEntries.ok impl_GoodEntries.g
  refine Ev.bind (impl_GoodEntry_ev _ _ _ _ _ _ _ _ _) ?_
  by_cases hg : eGood (rd_T51 m (i : Int)) = true
  · have hg2 := hg
    unfold eGood at hg2
    simp only [if_pos hg2]
    by_cases h0 : i = 0
    · simp only [if_pos h0]
      exact Ev_cast (Ev.now _) (by unfold stepOk; rw [hg, decide_eq_true h0]; rfl)
    · simp only [if_neg h0]
      unfold impl_GoodEntries.bf
      obtain ⟨c, hc, hc2⟩ := impl_compareEntries_ev (rd_T51 m ((i - 1 : Nat) : Int)) (rd_T51 m (i : Int))
      refine Ev.bind hc ?_
      refine Ev_cast (Ev.now _) ?_
      unfold stepOk
      rw [hg, decide_eq_false h0]
      cases hb : eBefore (rd_T51 m ((i - 1 : Nat) : Int)) (rd_T51 m (i : Int))
      · have := hc2.2 hb
        simp
        omega
      · have : ¬ c ≥ 0 := fun h => by rw [hc2.1 h] at hb; cases hb
        simp
        omega
  · have hg2 := hg
    unfold eGood at hg2
    simp only [if_neg hg2]
    exact Ev_cast (Ev.now _) (by unfold stepOk; rw [Bool.eq_false_iff.mpr hg, Bool.false_and])
theorem impl_GoodEntries_ev (m : List S51) (hm : m.length ≤ 1048576) : Ev (fun k => impl_GoodEntries.f k m) (goodEntries m) := by
  have loop : ∀ (d i : Nat), m.length - i = d → i ≤ m.length → Ev (fun k => impl_GoodEntries.scan k m d i) (okFrom m d i && decide ((seqsOf m).Nodup)) := by
    intro d
    induction d with
    | zero =>
      intro i hd hi
      simp only [impl_GoodEntries.scan, okFrom, Bool.true_and]
      exact impl_GoodEntries_fin m hm
    | succ d ih =>
      intro i hd hi
      simp only [impl_GoodEntries.scan]
      refine Ev.bind (impl_GoodEntries_ok m i) ?_
      by_cases hs : stepOk m i = true
      · simp only [if_pos hs]
        exact Ev_cast (ih (i + 1) (by omega) (by omega)) (by simp only [okFrom, hs, Bool.true_and])
      · simp only [if_neg hs]
        exact Ev_cast (Ev.now _) (by simp only [okFrom, Bool.eq_false_iff.mpr hs, Bool.false_and])
  unfold impl_GoodEntries.f
  simp only [if_pos hm]
  exact loop m.length 0 (by omega) (by omega)
theorem rdOf_lt {α : Type} {d : α} {l : List α} {i : Nat} (h : i < l.length) : rdOf d l (i : Int) = l[i] := by simp [rdOf, h]
def hashFrom (h : Int) : List Int → Int
  | [] => Go.bits .xor .u32 h (h / 32768)
  | b :: t => hashFrom (((Go.bits .xor .u32 h (b % 4294967296)) * 16777619) % 4294967296) t
def hashOf (s : ByteArray) (seed : Int) : Int := hashFrom ((2166136261 + ((seed % 4294967296) * 40503)) % 4294967296) (bytesOf s)
theorem spec_l6Hash_l0 (s : ByteArray) (hs : s.size ≤ 4611686018427387904) : ∀ (d i : Nat) (h : Int), s.size - i = d → i ≤ s.size → Ev (fun k => spec_l6Hash.l0 k s h (i : Int)) (hashFrom h ((bytesOf s).drop i)) := by
  intro d
  have hl := bytesOf_length s
  induction d with
  | zero =>
    intro i h hd hi
    refine Ev_succ ?_
    simp only [spec_l6Hash.l0]
    simp only [if_neg (show ¬ (i : Int) < (s.size : Int) by omega)]
    rw [List.drop_eq_nil_of_le (by omega)]
    exact Ev.now _
  | succ d ih =>
    intro i h hd hi
    refine Ev_succ ?_
    simp only [spec_l6Hash.l0]
    simp only [if_pos (show (i : Int) < (s.size : Int) by omega), if_pos (show 0 ≤ (i : Int) by omega)]
    rw [← rd_bytesOf, rd_lt (by omega), w64 (by omega) (by omega), drop_cons (l := bytesOf s) (i := i) (by omega)]
    exact ih (i + 1) _ (by omega) (by omega)
theorem spec_l6Hash_ev (s : ByteArray) (hs : s.size ≤ 4611686018427387904) (seed : Int) : Ev (fun k => spec_l6Hash.f k s seed) (hashOf s seed) := by
  unfold spec_l6Hash.f hashOf
  (try rw [show (2166136261 + seed % 4294967296 * 40503 % 4294967296) % 4294967296 = (2166136261 + seed % 4294967296 * 40503) % 4294967296 by omega])
  have := spec_l6Hash_l0 s hs s.size 0 ((2166136261 + seed % 4294967296 * 40503) % 4294967296) (by omega) (by omega)
  simpa using this
theorem impl_hash_l0 (s : ByteArray) (hs : s.size ≤ 4611686018427387904) : ∀ (d i : Nat) (h : Int), s.size - i = d → i ≤ s.size → Ev (fun k => impl_hash.l0 k s h (i : Int)) (hashFrom h ((bytesOf s).drop i)) := by
  intro d
  have hl := bytesOf_length s
  induction d with
  | zero =>
    intro i h hd hi
    refine Ev_succ ?_
    simp only [impl_hash.l0]
    simp only [if_neg (show ¬ (i : Int) < (s.size : Int) by omega)]
    rw [List.drop_eq_nil_of_le (by omega)]
    exact Ev.now _
  | succ d ih =>
    intro i h hd hi
    refine Ev_succ ?_
    simp only [impl_hash.l0]
    simp only [if_pos (show (i : Int) < (s.size : Int) by omega), if_pos (show 0 ≤ (i : Int) by omega)]
    rw [rd_lt (by omega), w64 (by omega) (by omega), drop_cons (l := bytesOf s) (i := i) (by omega)]
    exact ih (i + 1) _ (by omega) (by omega)
theorem impl_hash_ev (s : ByteArray) (hs : s.size ≤ 4611686018427387904) (seed : Int) : Ev (fun k => impl_hash.f k s seed) (hashOf s seed) := by
  unfold impl_hash.f hashOf
  simp only [if_pos (show s.size ≤ 9223372036854775807 by omega)]
  have := impl_hash_l0 s hs s.size 0 ((2166136261 + seed % 4294967296 * 40503) % 4294967296) (by omega) (by omega)
  simpa using this
theorem bits_range32 (op : BinOp) (a b : Int) : 0 ≤ Go.bits op .u32 a b ∧ Go.bits op .u32 a b < 4294967296 := by
  unfold Go.bits
  simp only [wrap_u32]
  omega
theorem hashFrom_range : ∀ (l : List Int) (h : Int), 0 ≤ hashFrom h l ∧ hashFrom h l < 4294967296 := by
  intro l
  induction l with
  | nil => intro h; exact bits_range32 _ _ _
  | cons b t ih => intro h; exact ih _
theorem hashOf_range (s : ByteArray) (seed : Int) : 0 ≤ hashOf s seed ∧ hashOf s seed < 4294967296 := hashFrom_range _ _
def placeAt (h d m : Int) (k : Nat) : Int := ((h + k * d) % 4294967296) % m
def placesFrom (h d m : Int) : Nat → Nat → List Int
  | _, 0 => []
  | k, n + 1 => placeAt h d m k :: placesFrom h d m (k + 1) n
def placesOf (s : ByteArray) (ways : Nat) (bytes : Nat) : List Int := placesFrom (hashOf s 0) (hashOf s 1) (8 * bytes) 0 ways
theorem placesFrom_range (h d m : Int) (hm : 0 < m) : ∀ (n k : Nat), ∀ p ∈ placesFrom h d m k n, 0 ≤ p ∧ p < m := by
  intro n
  induction n with
  | zero => intro k p hp; cases hp
  | succ n ih =>
    intro k p hp
    rcases List.mem_cons.1 hp with rfl | hp
    · unfold placeAt
      exact ⟨Int.emod_nonneg _ (by omega), Int.emod_lt_of_pos _ hm⟩
    · exact ih (k + 1) p hp
theorem placesFrom_length (h d m : Int) : ∀ (n k : Nat), (placesFrom h d m k n).length = n := by
  intro n
  induction n with
  | zero => intro k; rfl
  | succ n ih => intro k; simp [placesFrom, ih]
theorem place_wrap (x m : Int) (hm : 0 < m) (hm2 : m ≤ 1600) : wrap64 ((x % 4294967296) % m) = (x % 4294967296) % m := by
  have h1 := Int.emod_nonneg (x % 4294967296) (show m ≠ 0 by omega)
  have h2 := Int.emod_lt_of_pos (x % 4294967296) hm
  exact w64 (by omega) (by omega)
theorem spec_l6Places_l0 (h d : Int) (hh : 0 ≤ h) (ways bytes : Nat) (hw : ways ≤ 8) (hb : 1 ≤ bytes ∧ bytes ≤ 200) : ∀ (n k : Nat) (acc : List Int), k + n = ways → acc.length ≤ 100 + k → Ev (fun f => spec_l6Places.l0 f (ways : Int) (bytes : Int) ((h + k * d) % 4294967296) d acc (k : Int)) (acc ++ placesFrom h d (8 * bytes) k n) := by
  intro n
  induction n with
  | zero =>
    intro k acc hk ha
    refine Ev_succ ?_
    simp only [spec_l6Places.l0]
    simp only [if_neg (show ¬ (k : Int) < (ways : Int) by omega)]
    exact Ev_cast (Ev.now _) (by simp [placesFrom])
  | succ n ih =>
    intro k acc hk ha
    refine Ev_succ ?_
    simp only [spec_l6Places.l0]
    rw [w64 (n := 8 * (bytes : Int)) (by omega) (by omega), show 8 * (bytes : Int) % 4294967296 = 8 * (bytes : Int) by omega]
    simp only [if_pos (show (k : Int) < (ways : Int) by omega), if_neg (show ¬ 8 * (bytes : Int) = 0 by omega), if_pos (show acc.length < 17592186044416 by omega)]
    rw [Int.tmod_eq_emod_of_nonneg (by omega), place_wrap _ _ (by omega) (by omega), w64 (by omega) (by omega)]
    have e : ((h + k * d) % 4294967296 + d) % 4294967296 = (h + ((k + 1 : Nat) : Int) * d) % 4294967296 := by
      rw [Int.emod_add_emod]
      congr 1
      push_cast
      rw [Int.add_mul]; omega
    rw [e]
    exact Ev_cast (ih (k + 1) _ (by omega) (by simp; omega)) (by simp [placesFrom, placeAt])
theorem spec_l6Places_ev (s : ByteArray) (hs : s.size ≤ 4611686018427387904) (ways bytes : Nat) (hw : ways ≤ 8) (hb : 1 ≤ bytes ∧ bytes ≤ 200) : Ev (fun f => spec_l6Places.f f s (ways : Int) (bytes : Int)) (placesOf s ways bytes) := by
  unfold spec_l6Places.f
  refine Ev.bind (spec_l6Hash_ev s hs 0) ?_
  refine Ev.bind (spec_l6Hash_ev s hs 1) ?_
  have hr := hashOf_range s 0
  have := spec_l6Places_l0 (hashOf s 0) (hashOf s 1) (by omega) ways bytes hw hb ways 0 [] (by omega) (by simp)
  rw [show (hashOf s 0 + ((0 : Nat) : Int) * hashOf s 1) % 4294967296 = hashOf s 0 by simp; omega] at this
  exact this
theorem impl_places_l0 (h d : Int) (w : Int) (bits : List Int) (ways : Nat) (hw : ways ≤ 8) (hb : 1 ≤ bits.length ∧ bits.length ≤ 200) : ∀ (n k : Nat) (acc : List Int), k + n = ways → acc.length ≤ 100 + k → Ev (fun f => impl_Filter_places.l0 f h d acc (ways : Int) (k : Int) w bits) (acc ++ placesFrom h d (8 * (bits.length : Int)) k n) := by
  intro n
  induction n with
  | zero =>
    intro k acc hk ha
    refine Ev_succ ?_
    simp only [impl_Filter_places.l0]
    simp only [if_neg (show ¬ (k : Int) < (ways : Int) by omega)]
    exact Ev_cast (Ev.now _) (by simp [placesFrom])
  | succ n ih =>
    intro k acc hk ha
    refine Ev_succ ?_
    simp only [impl_Filter_places.l0]
    rw [w64 (n := 8 * (bits.length : Int)) (by omega) (by omega), show 8 * (bits.length : Int) % 4294967296 = 8 * (bits.length : Int) by omega, show (k : Int) % 4294967296 = (k : Int) by omega]
    simp only [if_pos (show (k : Int) < (ways : Int) by omega), if_neg (show ¬ 8 * (bits.length : Int) = 0 by omega), if_pos (show acc.length < 17592186044416 by omega)]
    rw [place_wrap _ _ (by omega) (by omega), w64 (by omega) (by omega)]
    exact Ev_cast (ih (k + 1) _ (by omega) (by simp; omega)) (by simp [placesFrom, placeAt])
theorem impl_places_ev (s : ByteArray) (hs : s.size ≤ 4611686018427387904) (ways : Nat) (bits : List Int) (hw : ways ≤ 8) (hb : 1 ≤ bits.length ∧ bits.length ≤ 200) : Ev (fun f => impl_Filter_places.f f (ways : Int) bits s) (placesOf s ways bits.length) := by
  unfold impl_Filter_places.f
  refine Ev.bind (impl_hash_ev s hs 0) ?_
  refine Ev.bind (impl_hash_ev s hs 1) ?_
  exact impl_places_l0 (hashOf s 0) (hashOf s 1) _ bits ways hw hb ways 0 [] (by omega) (by simp)
def setBit (l : List Int) (p : Int) : List Int := l.set (wrap64 (Int.tdiv p 8)).toNat (Go.bits .or .u8 (rd l (wrap64 (Int.tdiv p 8))) (shl .u8 1 (Int.tmod p 8)))
theorem setBit_length (l : List Int) (p : Int) : (setBit l p).length = l.length := by unfold setBit; simp
theorem foldBits_length (ps : List Int) : ∀ l : List Int, (ps.foldl setBit l).length = l.length := by
  induction ps with
  | nil => intro l; rfl
  | cons p ps ih => intro l; rw [List.foldl_cons, ih, setBit_length]
def setKeys (ways : Nat) (l : List Int) (keys : List ByteArray) : List Int := keys.foldl (fun l s => (placesOf s ways l.length).foldl setBit l) l
theorem setKeys_length (ways : Nat) (keys : List ByteArray) : ∀ l : List Int, (setKeys ways l keys).length = l.length := by
  unfold setKeys
  induction keys with
  | nil => intro l; rfl
  | cons p ps ih => intro l; rw [List.foldl_cons, ih, foldBits_length]
def waysOf (perKey : Int) : Nat := if perKey * 69 / 100 < 1 then 1 else if perKey * 69 / 100 > 8 then 8 else (perKey * 69 / 100).toNat
def bytesFor (n : Nat) (perKey : Int) : Nat := if (n : Int) * perKey < 64 then 8 else if ((n : Int) * perKey + 7) / 8 > 200 then 200 else (((n : Int) * perKey + 7) / 8).toNat
def filterOf (keys : List ByteArray) (perKey : Int) : Int × List Int × Bool := if keys.length ≤ 100 ∧ 1 ≤ perKey ∧ perKey ≤ 20 then ((waysOf perKey : Int), setKeys (waysOf perKey) (List.replicate (bytesFor keys.length perKey) 0) keys, true) else (0, [], false)
theorem waysOf_range (perKey : Int) : 1 ≤ waysOf perKey ∧ waysOf perKey ≤ 8 := by
  unfold waysOf
  split
  · omega
  · split <;> omega
theorem bytesFor_range (n : Nat) (perKey : Int) : 1 ≤ bytesFor n perKey ∧ bytesFor n perKey ≤ 200 := by
  unfold bytesFor
  split
  · omega
  · split <;> omega
theorem keys_bound (n : Nat) (perKey : Int) (hn : n ≤ 100) (hp : 1 ≤ perKey ∧ perKey ≤ 20) : 0 ≤ (n : Int) * perKey ∧ (n : Int) * perKey ≤ 2000 := by
  constructor
  · exact Int.mul_nonneg (by omega) (by omega)
  · have := Int.mul_le_mul (show (n : Int) ≤ 100 by omega) hp.2 (by omega) (by omega)
    omega
theorem shr_idx (p : Int) (m : Nat) (h0 : 0 ≤ p) (h1 : p < 8 * (m : Int)) (hm : m ≤ 200) : 0 ≤ wrap64 (Int.tdiv p 8) ∧ wrap64 (Int.tdiv p 8) < (m : Int) ∧ 0 ≤ Int.tmod p 8 ∧ IntKind.u64.wrap (Int.tmod p 8) = Int.tmod p 8 := by
  rw [Int.tdiv_eq_ediv_of_nonneg h0, Int.tmod_eq_emod_of_nonneg h0, w64 (by omega) (by omega), wrap_u64]
  omega
theorem impl_FilterOf_l1 (keys : List ByteArray) (K I w : Int) (r : Int × List Int × Bool) : ∀ (ps pre bits : List Int), (pre ++ ps).length ≤ 1000 → bits.length ≤ 200 → (∀ p ∈ ps, 0 ≤ p ∧ p < 8 * (bits.length : Int)) → Ev (fun k => impl_FilterOf.l0 k keys K (wrap64 (I + 1)) w (ps.foldl setBit bits)) r →
    Ev (fun k => impl_FilterOf.l1 k keys K I (pre ++ ps) ((pre ++ ps).length : Int) (pre.length : Int) w bits) r := by
  intro ps
  induction ps with
  | nil =>
    intro pre bits hl hb hp hr
    refine Ev_succ ?_
    simp only [impl_FilterOf.l1]
    simp only [if_neg (show ¬ (pre.length : Int) < ((pre ++ []).length : Int) by simp)]
    exact hr
  | cons p ps ih =>
    intro pre bits hl hb hp hr
    refine Ev_succ ?_
    have hll : (pre ++ p :: ps).length = pre.length + ps.length + 1 := by simp; omega
    have hrd : rd (pre ++ p :: ps) (pre.length : Int) = p := by rw [rd_lt (by omega)]; simp
    obtain ⟨p0, p1⟩ := hp p (List.mem_cons_self ..)
    obtain ⟨i0, i1, i2, i3⟩ := shr_idx p bits.length p0 p1 hb
    simp only [impl_FilterOf.l1, hrd]
    simp only [if_pos (show (pre.length : Int) < ((pre ++ p :: ps).length : Int) by omega), if_pos (show 0 ≤ (pre.length : Int) by omega), if_pos i0, if_pos i1, if_pos i2]
    rw [w64 (n := (pre.length : Int) + 1) (by omega) (by omega)]
    have e : pre ++ p :: ps = (pre ++ [p]) ++ ps := by simp
    rw [e, show (pre.length : Int) + 1 = ((pre ++ [p]).length : Int) by simp]
    refine ih (pre ++ [p]) (setBit bits p) (by rw [← e]; exact hl) (by rw [setBit_length]; exact hb) (fun q hq => by rw [setBit_length]; exact hp q (List.mem_cons_of_mem _ hq)) hr
theorem impl_FilterOf_l0 (ways : Nat) (m : Nat) (hw : ways ≤ 8) (hm : 1 ≤ m ∧ m ≤ 200) (keys : List ByteArray) (hk : keys.length ≤ 100) (hs : ∀ s ∈ keys, s.size ≤ 1048576) : ∀ (d i : Nat) (bits : List Int), keys.length - i = d → i ≤ keys.length → bits.length = m →
    Ev (fun k => impl_FilterOf.l0 k keys (keys.length : Int) (i : Int) (ways : Int) bits) ((ways : Int), setKeys ways bits (keys.drop i), true) := by
  intro d
  induction d with
  | zero =>
    intro i bits hd hi hb
    refine Ev_succ ?_
    simp only [impl_FilterOf.l0]
    simp only [if_neg (show ¬ (i : Int) < (keys.length : Int) by omega)]
    rw [List.drop_eq_nil_of_le (by omega)]
    exact Ev.now _
  | succ d ih =>
    intro i bits hd hi hb
    refine Ev_succ ?_
    simp only [impl_FilterOf.l0]
    simp only [if_pos (show (i : Int) < (keys.length : Int) by omega), if_pos (show 0 ≤ (i : Int) by omega)]
    rw [rdOf_lt (by omega), drop_cons (l := keys) (i := i) (by omega)]
    have hsz := hs (keys[i]'(by omega)) (List.getElem_mem _)
    generalize keys[i]'(by omega) = s at hsz ⊢
    refine Ev.bind (impl_places_ev s (by omega) ways bits hw (by omega)) ?_
    rw [hb]
    have hp := placesFrom_range (hashOf s 0) (hashOf s 1) (8 * (m : Int)) (by omega) ways 0
    have hpl : (placesOf s ways m).length = ways := placesFrom_length _ _ _ _ _
    have := impl_FilterOf_l1 keys (keys.length : Int) (i : Int) (ways : Int) ((ways : Int), setKeys ways bits (s :: keys.drop (i + 1)), true) (placesOf s ways m) [] bits (by rw [List.nil_append]; omega) (by omega) (by rw [hb]; exact hp) (by
      rw [w64 (by omega) (by omega)]
      have := ih (i + 1) ((placesOf s ways m).foldl setBit bits) (by omega) (by omega) (by rw [foldBits_length]; exact hb)
      have e : setKeys ways bits (s :: keys.drop (i + 1)) = setKeys ways ((placesOf s ways m).foldl setBit bits) (keys.drop (i + 1)) := by
        unfold setKeys
        rw [List.foldl_cons, hb]
      rw [e]
      exact this)
    exact this
theorem impl_FilterOf_ev (keys : List ByteArray) (hs : ∀ s ∈ keys, s.size ≤ 1048576) (hkl : keys.length ≤ 1048576) (perKey : Int) : Ev (fun k => impl_FilterOf.f k keys perKey) (filterOf keys perKey) := by
  have bad : Ev (fun k => impl_FilterOf.j0 k keys perKey true) (0, [], false) := by
    refine Ev_succ ?_
    simp only [impl_FilterOf.j0, if_true]
    exact Ev.now _
  unfold impl_FilterOf.f filterOf
  by_cases hk : (keys.length : Int) > 100
  · simp only [if_pos hk]; rw [if_neg (by omega)]; exact bad
  simp only [if_neg hk]
  refine Ev.bind (Ev_some (within_eq _ _ _)) ?_
  by_cases hp : 1 ≤ perKey ∧ perKey ≤ 20
  · rw [decide_eq_true hp, if_pos ⟨by omega, hp.1, hp.2⟩, Bool.not_true]
    have hw := waysOf_range perKey
    have hm := bytesFor_range keys.length perKey
    have hkb := keys_bound keys.length perKey (by omega) hp
    refine Ev_succ ?_
    simp only [impl_FilterOf.j0, Bool.false_eq_true, if_false]
    have eW : mn 8 (mx 1 (wrap64 (Int.tdiv (wrap64 (perKey * 69)) 100))) = (waysOf perKey : Int) := by
      rw [w64 (n := perKey * 69) (by omega) (by omega), Int.tdiv_eq_ediv_of_nonneg (by omega), w64 (by omega) (by omega)]
      unfold mn mx waysOf
      repeat' split
      all_goals omega
    have eB : mn 200 (wrap64 (Int.tdiv (wrap64 (mx 64 (wrap64 ((keys.length : Int) * perKey)) + 7)) 8)) = (bytesFor keys.length perKey : Int) := by
      rw [w64 (n := (keys.length : Int) * perKey) (by omega) (by omega)]
      unfold bytesFor
      generalize (keys.length : Int) * perKey = q at hkb
      have hmx : 64 ≤ mx 64 q ∧ mx 64 q ≤ 2000 := by unfold mx; split <;> omega
      rw [w64 (n := mx 64 q + 7) (by omega) (by omega), Int.tdiv_eq_ediv_of_nonneg (by omega), w64 (by omega) (by omega)]
      unfold mn mx
      repeat' split
      all_goals omega
    rw [eW, eB]
    simp only [Int.toNat_natCast, if_pos (show 0 ≤ (bytesFor keys.length perKey : Int) by omega), if_pos (show bytesFor keys.length perKey ≤ 281474976710656 by omega)]
    have := impl_FilterOf_l0 (waysOf perKey) (bytesFor keys.length perKey) hw.2 hm keys (by omega) hs keys.length 0 (List.replicate (bytesFor keys.length perKey) 0) (by omega) (by omega) (by simp)
    exact this
  · rw [decide_eq_false hp, if_neg (by omega), Bool.not_false]
    exact bad
theorem spec_l6Filter_l1 (W M : Int) (keys : List ByteArray) (K I w : Int) (r : Int × List Int) : ∀ (ps pre bits : List Int), (pre ++ ps).length ≤ 1000 → bits.length ≤ 200 → (∀ p ∈ ps, 0 ≤ p ∧ p < 8 * (bits.length : Int)) → Ev (fun k => spec_l6Filter.l0 k W M keys K (wrap64 (I + 1)) w (ps.foldl setBit bits)) r →
    Ev (fun k => spec_l6Filter.l1 k W M keys K I (pre ++ ps) ((pre ++ ps).length : Int) (pre.length : Int) w bits) r := by
  intro ps
  induction ps with
  | nil =>
    intro pre bits hl hb hp hr
    refine Ev_succ ?_
    simp only [spec_l6Filter.l1]
    simp only [if_neg (show ¬ (pre.length : Int) < ((pre ++ []).length : Int) by simp)]
    exact hr
  | cons p ps ih =>
    intro pre bits hl hb hp hr
    refine Ev_succ ?_
    have hll : (pre ++ p :: ps).length = pre.length + ps.length + 1 := by simp; omega
    have hrd : rd (pre ++ p :: ps) (pre.length : Int) = p := by rw [rd_lt (by omega)]; simp
    obtain ⟨p0, p1⟩ := hp p (List.mem_cons_self ..)
    obtain ⟨i0, i1, i2, i3⟩ := shr_idx p bits.length p0 p1 hb
    simp only [spec_l6Filter.l1, hrd, i3]
    simp only [if_pos (show (pre.length : Int) < ((pre ++ p :: ps).length : Int) by omega), if_pos (show 0 ≤ (pre.length : Int) by omega), if_pos i0, if_pos i1, if_pos i2]
    rw [w64 (n := (pre.length : Int) + 1) (by omega) (by omega)]
    have e : pre ++ p :: ps = (pre ++ [p]) ++ ps := by simp
    rw [e, show (pre.length : Int) + 1 = ((pre ++ [p]).length : Int) by simp]
    refine ih (pre ++ [p]) (setBit bits p) (by rw [← e]; exact hl) (by rw [setBit_length]; exact hb) (fun q hq => by rw [setBit_length]; exact hp q (List.mem_cons_of_mem _ hq)) hr
theorem spec_l6Filter_l0 (ways : Nat) (m : Nat) (w : Int) (hw : ways ≤ 8) (hm : 1 ≤ m ∧ m ≤ 200) (keys : List ByteArray) (hk : keys.length ≤ 100) (hs : ∀ s ∈ keys, s.size ≤ 1048576) : ∀ (d i : Nat) (bits : List Int), keys.length - i = d → i ≤ keys.length → bits.length = m →
    Ev (fun k => spec_l6Filter.l0 k (ways : Int) (m : Int) keys (keys.length : Int) (i : Int) w bits) (w, setKeys ways bits (keys.drop i)) := by
  intro d
  induction d with
  | zero =>
    intro i bits hd hi hb
    refine Ev_succ ?_
    simp only [spec_l6Filter.l0]
    simp only [if_neg (show ¬ (i : Int) < (keys.length : Int) by omega)]
    rw [List.drop_eq_nil_of_le (by omega)]
    exact Ev.now _
  | succ d ih =>
    intro i bits hd hi hb
    refine Ev_succ ?_
    simp only [spec_l6Filter.l0]
    simp only [if_pos (show (i : Int) < (keys.length : Int) by omega), if_pos (show 0 ≤ (i : Int) by omega)]
    rw [rdOf_lt (by omega), drop_cons (l := keys) (i := i) (by omega)]
    have hsz := hs (keys[i]'(by omega)) (List.getElem_mem _)
    generalize keys[i]'(by omega) = s at hsz ⊢
    refine Ev.bind (spec_l6Places_ev s (by omega) ways m hw hm) ?_
    have hp := placesFrom_range (hashOf s 0) (hashOf s 1) (8 * (m : Int)) (by omega) ways 0
    have hpl : (placesOf s ways m).length = ways := placesFrom_length _ _ _ _ _
    have := spec_l6Filter_l1 (ways : Int) (m : Int) keys (keys.length : Int) (i : Int) w (w, setKeys ways bits (s :: keys.drop (i + 1))) (placesOf s ways m) [] bits (by rw [List.nil_append]; omega) (by omega) (by rw [hb]; exact hp) (by
      rw [w64 (by omega) (by omega)]
      have := ih (i + 1) ((placesOf s ways m).foldl setBit bits) (by omega) (by omega) (by rw [foldBits_length]; exact hb)
      have e : setKeys ways bits (s :: keys.drop (i + 1)) = setKeys ways ((placesOf s ways m).foldl setBit bits) (keys.drop (i + 1)) := by
        unfold setKeys
        rw [List.foldl_cons, hb]
      rw [e]
      exact this)
    exact this
theorem spec_l6Filter_ev (keys : List ByteArray) (hs : ∀ s ∈ keys, s.size ≤ 1048576) (hk : keys.length ≤ 100) (perKey : Int) (hp : 1 ≤ perKey ∧ perKey ≤ 20) : Ev (fun k => spec_l6Filter.f k keys perKey) ((waysOf perKey : Int), setKeys (waysOf perKey) (List.replicate (bytesFor keys.length perKey) 0) keys) := by
  have hw := waysOf_range perKey
  have hm := bytesFor_range keys.length perKey
  have hkb := keys_bound keys.length perKey (by omega) hp
  -- the number of bytes
  have j3 : Ev (fun k => spec_l6Filter.j3 k keys (waysOf perKey : Int) (bytesFor keys.length perKey : Int)) ((waysOf perKey : Int), setKeys (waysOf perKey) (List.replicate (bytesFor keys.length perKey) 0) keys) := by
    refine Ev_succ ?_
    simp only [spec_l6Filter.j3, Int.toNat_natCast]
    simp only [if_pos (show 0 ≤ (bytesFor keys.length perKey : Int) by omega), if_pos (show bytesFor keys.length perKey ≤ 281474976710656 by omega)]
    exact spec_l6Filter_l0 (waysOf perKey) (bytesFor keys.length perKey) _ hw.2 hm keys (by omega) hs keys.length 0 _ (by omega) (by omega) (by simp)
  have j1 : Ev (fun k => spec_l6Filter.j1 k keys perKey (waysOf perKey : Int)) ((waysOf perKey : Int), setKeys (waysOf perKey) (List.replicate (bytesFor keys.length perKey) 0) keys) := by
    refine Ev_succ ?_
    simp only [spec_l6Filter.j1]
    rw [w64 (n := (keys.length : Int) * perKey) (by omega) (by omega)]
    generalize hB : bytesFor keys.length perKey = B at j3
    unfold bytesFor at hB
    generalize (keys.length : Int) * perKey = q at hkb hB ⊢
    by_cases h64 : q < 64
    · simp only [if_pos h64]
      rw [if_pos h64] at hB
      subst hB
      refine Ev_succ ?_
      simp only [spec_l6Filter.j2]
      rw [w64 (n := (64 : Int) + 7) (by omega) (by omega), show Int.tdiv (64 + 7) 8 = 8 by rfl, w64 (by omega) (by omega)]
      simp only [if_neg (show ¬ (8 : Int) > 200 by omega)]
      exact j3
    · simp only [if_neg h64]
      rw [if_neg h64] at hB
      refine Ev_succ ?_
      simp only [spec_l6Filter.j2]
      rw [w64 (n := q + 7) (by omega) (by omega), Int.tdiv_eq_ediv_of_nonneg (by omega), w64 (by omega) (by omega)]
      by_cases h200 : (q + 7) / 8 > 200
      · simp only [if_pos h200]
        rw [if_pos h200] at hB
        subst hB
        exact j3
      · simp only [if_neg h200]
        rw [if_neg h200] at hB
        rw [show (q + 7) / 8 = (B : Int) by omega]
        exact j3
  unfold spec_l6Filter.f
  rw [w64 (n := perKey * 69) (by omega) (by omega), Int.tdiv_eq_ediv_of_nonneg (by omega), w64 (by omega) (by omega)]
  generalize hW : waysOf perKey = W at j1
  unfold waysOf at hW
  by_cases h1 : perKey * 69 / 100 < 1
  · simp only [if_pos h1]
    rw [if_pos h1] at hW
    subst hW
    refine Ev_succ ?_
    simp only [spec_l6Filter.j0, if_neg (show ¬ (1 : Int) > 8 by omega)]
    exact j1
  · simp only [if_neg h1]
    rw [if_neg h1] at hW
    refine Ev_succ ?_
    simp only [spec_l6Filter.j0]
    by_cases h8 : perKey * 69 / 100 > 8
    · simp only [if_pos h8]
      rw [if_pos h8] at hW
      subst hW
      exact j1
    · simp only [if_neg h8]
      rw [if_neg h8] at hW
      rw [show perKey * 69 / 100 = (W : Int) by omega]
      exact j1
def goodFilter (w : Int) (l : List Int) : Bool := decide ((1 ≤ w ∧ w ≤ 8) ∧ 1 ≤ l.length ∧ l.length ≤ 200)
theorem impl_GoodFilter_eq (w : Int) (l : List Int) : impl_GoodFilter.f w l = some (goodFilter w l) := by
  unfold impl_GoodFilter.f goodFilter
  rw [within_eq, Option.bind_some]
  by_cases h : 1 ≤ w ∧ w ≤ 8
  · rw [decide_eq_true h, if_pos rfl, within_eq, Option.bind_some]
    congr 1
    rw [decide_eq_decide]
    omega
  · rw [decide_eq_false h, if_neg (by simp)]
    congr 1
    rw [eq_comm, decide_eq_false_iff_not]
    exact fun hh => h hh.1
def filterBytes (w : Int) (l : List Int) : List Int × Bool := if goodFilter w l = true then (w % 256 :: l, true) else ([], false)
theorem impl_FilterBytes_eq (w : Int) (l : List Int) (hl : l.length ≤ 1048576) : impl_FilterBytes.f w l = some (filterBytes w l) := by
  unfold impl_FilterBytes.f filterBytes
  rw [impl_GoodFilter_eq, Option.bind_some]
  by_cases h : goodFilter w l = true
  · rw [if_pos h, if_pos h]
    simp only [Option.bind_some]
    rw [if_pos (by simp; omega)]
    rfl
  · rw [if_neg h, if_neg h]
def crcBit (c : Int) : Int := if Go.bits .and .u32 c 1 = 1 then Go.bits .xor .u32 (c / 2) 2197175160 else c / 2
def crcBits : Nat → Int → Int
  | 0, c => c
  | n + 1, c => crcBits n (crcBit c)
def crcFrom (c : Int) : List Int → Int
  | [] => c
  | b :: t => crcFrom (crcBits 8 (Go.bits .xor .u32 c (b % 4294967296))) t
def crcOf (l : List Int) : Int := Go.bits .xor .u32 4294967295 (crcFrom 4294967295 l)
theorem bits_xor_comm (k : IntKind) (a b : Int) : Go.bits .xor k a b = Go.bits .xor k b a := by
  unfold Go.bits
  show k.wrap (((BitVec.ofInt k.bits a ^^^ BitVec.ofInt k.bits b).toNat : Nat) : Int) = k.wrap (((BitVec.ofInt k.bits b ^^^ BitVec.ofInt k.bits a).toNat : Nat) : Int)
  rw [BitVec.xor_comm]
theorem spec_l1Crc_l1 (l : List Int) (L I : Int) (r : Int) : ∀ (n : Nat) (c : Int), n ≤ 8 → Ev (fun k => spec_l1Crc.l0 k (crcBits n c) l L (wrap64 (I + 1))) r → Ev (fun k => spec_l1Crc.l1 k c (8 - (n : Int)) l L I) r := by
  intro n
  induction n with
  | zero =>
    intro c hn h
    refine Ev_succ ?_
    simp only [spec_l1Crc.l1]
    simp only [if_neg (show ¬ (8 : Int) - (0 : Nat) < 8 by omega)]
    exact h
  | succ n ih =>
    intro c hn h
    refine Ev_succ ?_
    simp only [spec_l1Crc.l1]
    simp only [if_pos (show (8 : Int) - ((n + 1 : Nat) : Int) < 8 by omega)]
    rw [w64 (n := (8 : Int) - ((n + 1 : Nat) : Int) + 1) (by omega) (by omega), show (8 : Int) - ((n + 1 : Nat) : Int) + 1 = 8 - (n : Int) by omega]
    have e : crcBits (n + 1) c = crcBits n (crcBit c) := rfl
    rw [e] at h
    by_cases hb : Go.bits .and .u32 c 1 = 1
    · simp only [if_pos hb]
      exact ih _ (by omega) (by rw [crcBit, if_pos hb] at h; exact h)
    · simp only [if_neg hb]
      exact ih _ (by omega) (by rw [crcBit, if_neg hb] at h; exact h)
theorem spec_l1Crc_l0 (l : List Int) (hl : l.length ≤ 4611686018427387904) : ∀ (d i : Nat) (c : Int), l.length - i = d → i ≤ l.length → Ev (fun k => spec_l1Crc.l0 k c l (l.length : Int) (i : Int)) (Go.bits .xor .u32 (crcFrom c (l.drop i)) 4294967295) := by
  intro d
  induction d with
  | zero =>
    intro i c hd hi
    refine Ev_succ ?_
    simp only [spec_l1Crc.l0]
    simp only [if_neg (show ¬ (i : Int) < (l.length : Int) by omega)]
    rw [List.drop_eq_nil_of_le (by omega)]
    exact Ev.now _
  | succ d ih =>
    intro i c hd hi
    refine Ev_succ ?_
    simp only [spec_l1Crc.l0]
    simp only [if_pos (show (i : Int) < (l.length : Int) by omega), if_pos (show 0 ≤ (i : Int) by omega)]
    have := spec_l1Crc_l1 l (l.length : Int) (i : Int) _ 8 (Go.bits .xor .u32 c (rd l (i : Int) % 4294967296)) (by omega) (by
      rw [w64 (by omega) (by omega)]
      exact ih (i + 1) _ (by omega) (by omega))
    rw [rd_lt (by omega)] at this ⊢
    rw [drop_cons (l := l) (i := i) (by omega)]
    exact this
theorem spec_l1Crc_ev (l : List Int) (hl : l.length ≤ 4611686018427387904) : Ev (fun k => spec_l1Crc.f k l) (crcOf l) := by
  unfold spec_l1Crc.f crcOf
  have := spec_l1Crc_l0 l hl l.length 0 4294967295 (by omega) (by omega)
  rw [bits_xor_comm]
  simpa using this
theorem impl_Crc32c_l1 (l : List Int) (L I : Int) (r : Int) : ∀ (n : Nat) (c : Int), n ≤ 8 → Ev (fun k => impl_Crc32c.l0 k (crcBits n c) l L (wrap64 (I + 1))) r → Ev (fun k => impl_Crc32c.l1 k c l L I (8 - (n : Int))) r := by
  intro n
  induction n with
  | zero =>
    intro c hn h
    refine Ev_succ ?_
    simp only [impl_Crc32c.l1]
    simp only [if_neg (show ¬ (8 : Int) - (0 : Nat) < 8 by omega)]
    exact h
  | succ n ih =>
    intro c hn h
    refine Ev_succ ?_
    simp only [impl_Crc32c.l1]
    simp only [if_pos (show (8 : Int) - ((n + 1 : Nat) : Int) < 8 by omega)]
    rw [w64 (n := (8 : Int) - ((n + 1 : Nat) : Int) + 1) (by omega) (by omega), show (8 : Int) - ((n + 1 : Nat) : Int) + 1 = 8 - (n : Int) by omega]
    have e : crcBits (n + 1) c = crcBits n (crcBit c) := rfl
    rw [e] at h
    by_cases hb : Go.bits .and .u32 c 1 = 1
    · simp only [if_pos hb]
      exact ih _ (by omega) (by rw [crcBit, if_pos hb] at h; exact h)
    · simp only [if_neg hb]
      exact ih _ (by omega) (by rw [crcBit, if_neg hb] at h; exact h)
theorem impl_Crc32c_l0 (l : List Int) (hl : l.length ≤ 4611686018427387904) : ∀ (d i : Nat) (c : Int), l.length - i = d → i ≤ l.length → Ev (fun k => impl_Crc32c.l0 k c l (l.length : Int) (i : Int)) (Go.bits .xor .u32 4294967295 (crcFrom c (l.drop i))) := by
  intro d
  induction d with
  | zero =>
    intro i c hd hi
    refine Ev_succ ?_
    simp only [impl_Crc32c.l0]
    simp only [if_neg (show ¬ (i : Int) < (l.length : Int) by omega)]
    rw [List.drop_eq_nil_of_le (by omega)]
    exact Ev.now _
  | succ d ih =>
    intro i c hd hi
    refine Ev_succ ?_
    simp only [impl_Crc32c.l0]
    simp only [if_pos (show (i : Int) < (l.length : Int) by omega), if_pos (show 0 ≤ (i : Int) by omega)]
    have := impl_Crc32c_l1 l (l.length : Int) (i : Int) _ 8 (Go.bits .xor .u32 c (rd l (i : Int) % 4294967296)) (by omega) (by
      rw [w64 (by omega) (by omega)]
      exact ih (i + 1) _ (by omega) (by omega))
    rw [rd_lt (by omega)] at this ⊢
    rw [drop_cons (l := l) (i := i) (by omega)]
    exact this
theorem impl_Crc32c_ev (l : List Int) (hl : l.length ≤ 4611686018427387904) : Ev (fun k => impl_Crc32c.f k l) (crcOf l) := by
  unfold impl_Crc32c.f crcOf
  have := impl_Crc32c_l0 l hl l.length 0 4294967295 (by omega) (by omega)
  simpa using this
def fixedB : Nat → Nat → List Int
  | _, 0 => []
  | n, m + 1 => fixedB (n / 256) m ++ [((n % 256 : Nat) : Int)]
theorem fixedB_length : ∀ (m n : Nat), (fixedB n m).length = m := by
  intro m
  induction m with
  | zero => intro n; rfl
  | succ m ih => intro n; simp [fixedB, ih]
theorem two_pow_8 (j : Nat) : (2 : Int) ^ (8 * j) = 256 ^ j := by rw [Int.pow_mul]; rfl
theorem shr8 (n j : Nat) (hj : j ≤ 8) : shr .i64 (n : Int) (8 * (j : Int)) = ((n / 256 ^ j : Nat) : Int) := by
  unfold shr
  rw [show (min (8 * (j : Int)).toNat IntKind.i64.bits) = 8 * j by simp [IntKind.bits]; omega, two_pow_8, Int.natCast_ediv, Int.natCast_pow]
  rfl
theorem spec_l1Fixed_l0 (n : Nat) : ∀ (j m : Nat), m + j ≤ 8 → Ev (fun k => spec_l1Fixed.l0 k (n : Int) (fixedB (n / 256 ^ j) m) ((j : Int) - 1)) (fixedB n (m + j)) := by
  intro j
  induction j with
  | zero =>
    intro m h
    refine Ev_succ ?_
    simp only [spec_l1Fixed.l0, if_neg (show ¬ ((0 : Nat) : Int) - 1 ≥ 0 by omega)]
    exact Ev_cast (Ev.now _) (by simp)
  | succ j ih =>
    intro m h
    refine Ev_succ ?_
    rw [show ((j + 1 : Nat) : Int) - 1 = (j : Int) by omega]
    simp only [spec_l1Fixed.l0]
    rw [w64 (n := 8 * (j : Int)) (by omega) (by omega), wrap_u64, show (8 * (j : Int)) % 18446744073709551616 = 8 * (j : Int) by omega, w64 (by omega) (by omega), shr8 n j (by omega)]
    have hl := fixedB_length m (n / 256 ^ (j + 1))
    simp only [if_pos (show (j : Int) ≥ 0 by omega), if_pos (show 0 ≤ 8 * (j : Int) by omega), if_pos (show (fixedB (n / 256 ^ (j + 1)) m).length < 140737488355328 by omega)]
    have e : fixedB (n / 256 ^ (j + 1)) m ++ [((n / 256 ^ j : Nat) : Int) % 256] = fixedB (n / 256 ^ j) (m + 1) := by
      simp only [fixedB]
      rw [Nat.div_div_eq_div_mul, ← Nat.pow_succ]
      congr 1
    rw [e]
    exact Ev_cast (ih (m + 1) (by omega)) (by congr 1; omega)
theorem spec_l1Fixed_ev (n m : Nat) (h : m ≤ 8) : Ev (fun k => spec_l1Fixed.f k (n : Int) (m : Int)) (fixedB n m) := by
  unfold spec_l1Fixed.f
  rw [w64 (by omega) (by omega)]
  exact Ev_cast (spec_l1Fixed_l0 n m 0 (by omega)) (by simp)
/-- What PutFixed tells. -/
def putFixed (n m : Int) : List Int × Bool := if 0 ≤ n ∧ 1 ≤ m ∧ m ≤ 8 ∧ (m < 8 → n.toNat / 256 ^ m.toNat = 0) then (fixedB n.toNat m.toNat, true) else ([], false)
theorem impl_PutFixed_l0 : ∀ (j n : Nat) (tl : List Int), j + tl.length ≤ 8 → Ev (fun k => impl_PutFixed.l0 k (n : Int) (List.replicate j 0 ++ tl) ((j : Int) - 1)) (fixedB n j ++ tl, true) := by
  intro j
  induction j with
  | zero =>
    intro n tl h
    refine Ev_succ ?_
    simp only [impl_PutFixed.l0, if_neg (show ¬ ((0 : Nat) : Int) - 1 ≥ 0 by omega)]
    exact Ev_cast (Ev.now _) (by simp [fixedB])
  | succ j ih =>
    intro n tl h
    refine Ev_succ ?_
    rw [show ((j + 1 : Nat) : Int) - 1 = (j : Int) by omega]
    simp only [impl_PutFixed.l0]
    have hl : (List.replicate (j + 1) (0 : Int) ++ tl).length = j + 1 + tl.length := by simp
    simp only [if_pos (show (j : Int) ≥ 0 by omega), if_pos (show 0 ≤ (j : Int) by omega), if_pos (show (j : Int) < ((List.replicate (j + 1) (0 : Int) ++ tl).length : Int) by omega)]
    rw [w64 (by omega) (by omega)]
    have e : (List.replicate (j + 1) (0 : Int) ++ tl).set ((j : Int)).toNat ((n : Int) % 256) = List.replicate j 0 ++ ((n : Int) % 256 :: tl) := by
      rw [Int.toNat_natCast, List.replicate_succ', List.append_assoc, List.set_append_right _ _ (by simp)]
      simp
    rw [e, show (n : Int) / 256 = ((n / 256 : Nat) : Int) by omega]
    exact Ev_cast (ih (n / 256) ((n : Int) % 256 :: tl) (by simp; omega)) (by simp [fixedB])
theorem impl_PutFixed_ev (n m : Int) (hn : n ≤ 9223372036854775807) : Ev (fun k => impl_PutFixed.f k n m) (putFixed n m) := by
  have bad : Ev (fun k => impl_PutFixed.j0 k n m true) ([], false) := by
    refine Ev_succ ?_
    simp only [impl_PutFixed.j0, if_true]
    exact Ev.now _
  unfold impl_PutFixed.f putFixed
  by_cases h0 : n < 0
  · simp only [if_pos h0]; rw [if_neg (by omega)]; exact bad
  simp only [if_neg h0]
  refine Ev.bind (Ev_some (within_eq _ _ _)) ?_
  by_cases h : 1 ≤ m ∧ m ≤ 8
  · rw [decide_eq_true h]
    simp only [if_true]
    have good : Ev (fun k => impl_PutFixed.j0 k n m false) (fixedB n.toNat m.toNat, true) := by
      refine Ev_succ ?_
      simp only [impl_PutFixed.j0, Bool.false_eq_true, if_false, if_pos (show 0 ≤ m by omega), if_pos (show m.toNat ≤ 281474976710656 by omega)]
      rw [w64 (by omega) (by omega)]
      have := impl_PutFixed_l0 m.toNat n.toNat [] (by simp; omega)
      simp only [List.append_nil] at this
      rwa [show ((n.toNat : Nat) : Int) = n by omega, show ((m.toNat : Nat) : Int) = m by omega] at this
    obtain ⟨N, rfl⟩ := Int.eq_ofNat_of_zero_le (show 0 ≤ n by omega)
    obtain ⟨M, rfl⟩ := Int.eq_ofNat_of_zero_le (show 0 ≤ m by omega)
    simp only [Int.toNat_natCast] at good ⊢
    by_cases h8 : (M : Int) < 8
    · simp only [if_pos h8]
      rw [w64 (n := 8 * (M : Int)) (by omega) (by omega), shr8 N M (by omega)]
      simp only [if_pos (show 0 ≤ 8 * (M : Int) by omega)]
      by_cases hz : N / 256 ^ M = 0
      · rw [if_pos ⟨by omega, h.1, h.2, fun _ => hz⟩, show (((N / 256 ^ M : Nat) : Int) != 0) = false by rw [hz]; rfl]
        exact good
      · rw [if_neg (fun hh => hz (hh.2.2.2 h8)), show (((N / 256 ^ M : Nat) : Int) != 0) = true by simp only [bne_iff_ne]; omega]
        exact bad
    · simp only [if_neg h8]
      rw [if_pos ⟨by omega, h.1, h.2, fun h' => absurd h' h8⟩]
      exact good
  · rw [decide_eq_false h]
    simp only [Bool.false_eq_true, if_false]
    rw [if_neg (by omega)]
    exact bad
theorem eqByteS_l0 (a b : List Int) (hl : a.length = b.length) (hb : a.length ≤ 4611686018427387904) :
    ∀ (d i : Nat), a.length - i = d → i ≤ a.length → Ev (fun k => laws_eqByteS.l0 k a b (i : Int)) (decide (a.drop i = b.drop i)) := by
  intro d
  induction d with
  | zero =>
    intro i hd hi
    refine Ev_succ ?_
    simp only [laws_eqByteS.l0]
    simp only [if_neg (show ¬ (i : Int) < (a.length : Int) by omega)]
    exact Ev_cast (Ev.now _) (by rw [List.drop_eq_nil_of_le (by omega), List.drop_eq_nil_of_le (by omega)]; simp)
  | succ d ih =>
    intro i hd hi
    refine Ev_succ ?_
    simp only [laws_eqByteS.l0]
    simp only [if_pos (show (i : Int) < (a.length : Int) by omega), if_pos (show 0 ≤ (i : Int) by omega), if_pos (show (i : Int) < (b.length : Int) by omega)]
    rw [rd_lt (by omega), rd_lt (by omega), w64 (by omega) (by omega), drop_cons (l := a) (by omega), drop_cons (l := b) (i := i) (by omega)]
    by_cases e : a[i]'(by omega) = b[i]'(by omega)
    · simp only [if_pos e]
      exact Ev_cast (ih (i + 1) (by omega) (by omega)) (decide_eq_decide.2 (by rw [List.cons.injEq]; exact ⟨fun h => ⟨e, h⟩, fun h => h.2⟩))
    · simp only [if_neg e]
      exact Ev_cast (Ev.now _) (Eq.symm (decide_eq_false (by rw [List.cons.injEq]; exact fun h => e h.1)))
theorem eqByteS_ev (a b : List Int) (ha : a.length ≤ 4611686018427387904) : Ev (fun k => laws_eqByteS.f k a b) (decide (a = b)) := by
  unfold laws_eqByteS.f
  by_cases h : a.length = b.length
  · simp only [if_pos (show (a.length : Int) = (b.length : Int) by omega)]
    exact eqByteS_l0 a b h ha a.length 0 (by omega) (by omega)
  · simp only [if_neg (show ¬ (a.length : Int) = (b.length : Int) by omega)]
    exact Ev_cast (Ev.now _) (by simp; intro e; exact h (by rw [e]))
theorem eqByteS_same (a b : List Int) (ha : a.length ≤ 4611686018427387904) (e : a = b) : Ev (fun k => laws_eqByteS.f k a b) true := Ev_cast (eqByteS_ev a b ha) (by simp [e])
/-- What a list reads once it was marked from m on. -/
def markedFrom (m : Int) : Nat → List Int
  | 0 => []
  | n + 1 => (m % 256) :: markedFrom (m + 1) n
theorem markedFrom_length (n : Nat) : ∀ m, (markedFrom m n).length = n := by
  induction n with
  | zero => intro m; rfl
  | succ n ih => intro m; simp [markedFrom, ih]
theorem markByteS_l0 (m : Int) : ∀ (d i : Nat) (l : List Int), l.length - i = d → i ≤ l.length → l.length ≤ 1152921504606846976 → 0 ≤ m → m ≤ 1152921504606846976 + i →
    Ev (fun k => laws_markByteS.l0 k l m (i : Int)) (m + d, l.take i ++ markedFrom m d) := by
  intro d
  induction d generalizing m with
  | zero =>
    intro i l hd hi hl h0 hm
    refine Ev_succ ?_
    simp only [laws_markByteS.l0]
    simp only [if_neg (show ¬ (i : Int) < (l.length : Int) by omega)]
    exact Ev_cast (Ev.now _) (by rw [List.take_of_length_le (by omega)]; simp [markedFrom])
  | succ d ih =>
    intro i l hd hi hl h0 hm
    refine Ev_succ ?_
    simp only [laws_markByteS.l0]
    simp only [if_pos (show (i : Int) < (l.length : Int) by omega), if_pos (show 0 ≤ (i : Int) by omega)]
    rw [w64 (n := m + 1) (by omega) (by omega), w64 (by omega) (by omega)]
    refine Ev_cast (ih (m + 1) (i + 1) (l.set i (m % 256)) (by simp; omega) (by simp; omega) (by simpa using hl) (by omega) (by omega)) ?_
    refine Prod.ext (by simp; omega) ?_
    show (l.set i (m % 256)).take (i + 1) ++ markedFrom (m + 1) d = l.take i ++ markedFrom m (d + 1)
    have : (l.set i (m % 256)).take (i + 1) = l.take i ++ [m % 256] := by
      apply List.ext_getElem?
      intro j
      rw [List.getElem?_take, List.getElem?_append, List.getElem?_set]
      have : (l.take i).length = i := by simp; omega
      rw [this]
      by_cases h1 : j < i
      · rw [if_pos (by omega), if_neg (by omega), if_pos h1, List.getElem?_take, if_pos h1]
      · by_cases h2 : j = i
        · subst h2; simp; omega
        · rw [if_neg (by omega), if_neg h1]; simp; omega
    rw [this]; simp [markedFrom]
theorem markByteS_ev (l : List Int) (m : Int) (hl : l.length ≤ 1152921504606846976) (h0 : 0 ≤ m) (hm : m ≤ 1152921504606846976) : Ev (fun k => laws_markByteS.f k l m) (m + l.length, markedFrom m l.length) := by
  unfold laws_markByteS.f
  exact Ev_cast (markByteS_l0 m l.length 0 l (by omega) (by omega) hl h0 (by omega)) (by simp)
theorem heldByteS_l0 : ∀ (n : Nat) (m : Int) (i : Nat) (p : List Int), p.length = i → i + n ≤ 1152921504606846976 → 0 ≤ m → m ≤ 1152921504606846976 + i →
    Ev (fun k => laws_heldByteS.l0 k (p ++ markedFrom m n) m (i : Int)) (m + n) := by
  intro n
  induction n with
  | zero =>
    intro m i p hp hl h0 hm
    refine Ev_succ ?_
    simp only [laws_heldByteS.l0]
    simp only [markedFrom, List.append_nil, if_neg (show ¬ (i : Int) < (p.length : Int) by omega)]
    exact Ev_cast (Ev.now _) (by simp)
  | succ n ih =>
    intro m i p hp hl h0 hm
    refine Ev_succ ?_
    simp only [laws_heldByteS.l0]
    have hlen : (p ++ markedFrom m (n + 1)).length = i + n + 1 := by rw [List.length_append, markedFrom_length]; omega
    have hr : rd (p ++ markedFrom m (n + 1)) (i : Int) = m % 256 := by
      rw [rd_lt (by omega)]; simp [markedFrom, hp]
    simp only [if_pos (show (i : Int) < ((p ++ markedFrom m (n + 1)).length : Int) by omega), if_pos (show 0 ≤ (i : Int) by omega), hr, if_true]
    rw [w64 (n := m + 1) (by omega) (by omega), w64 (by omega) (by omega)]
    have e : p ++ markedFrom m (n + 1) = (p ++ [m % 256]) ++ markedFrom (m + 1) n := by simp [markedFrom]
    rw [e]
    exact Ev_cast (ih (m + 1) (i + 1) (p ++ [m % 256]) (by simp [hp]) (by omega) (by omega) (by omega)) (by omega)
theorem heldByteS_ev (m : Int) (n : Nat) (hl : n ≤ 1152921504606846976) (h0 : 0 ≤ m) (hm : m ≤ 1152921504606846976) : Ev (fun k => laws_heldByteS.f k (markedFrom m n) m) (m + n) := by
  unfold laws_heldByteS.f
  exact heldByteS_l0 n m 0 [] rfl (by omega) h0 (by omega)
/-- What a list of whole numbers reads once it was marked from m on. -/
def imarkedFrom (m : Int) : Nat → List Int
  | 0 => []
  | n + 1 => m :: imarkedFrom (m + 1) n
theorem markIntS_l0 (m : Int) : ∀ (d i : Nat) (l : List Int), l.length - i = d → i ≤ l.length → l.length ≤ 1152921504606846976 → 0 ≤ m → m ≤ 1152921504606846976 + i →
    Ev (fun k => laws_markIntS.l0 k l m (i : Int)) (m + d, l.take i ++ imarkedFrom m d) := by
  intro d
  induction d generalizing m with
  | zero =>
    intro i l hd hi hl h0 hm
    refine Ev_succ ?_
    simp only [laws_markIntS.l0]
    simp only [if_neg (show ¬ (i : Int) < (l.length : Int) by omega)]
    exact Ev_cast (Ev.now _) (by rw [List.take_of_length_le (by omega)]; simp [imarkedFrom])
  | succ d ih =>
    intro i l hd hi hl h0 hm
    refine Ev_succ ?_
    simp only [laws_markIntS.l0]
    simp only [if_pos (show (i : Int) < (l.length : Int) by omega), if_pos (show 0 ≤ (i : Int) by omega)]
    rw [w64 (n := m + 1) (by omega) (by omega), w64 (by omega) (by omega)]
    refine Ev_cast (ih (m + 1) (i + 1) (l.set i (m)) (by simp; omega) (by simp; omega) (by simpa using hl) (by omega) (by omega)) ?_
    refine Prod.ext (by simp; omega) ?_
    show (l.set i (m)).take (i + 1) ++ imarkedFrom (m + 1) d = l.take i ++ imarkedFrom m (d + 1)
    have : (l.set i (m)).take (i + 1) = l.take i ++ [m] := by
      apply List.ext_getElem?
      intro j
      rw [List.getElem?_take, List.getElem?_append, List.getElem?_set]
      have : (l.take i).length = i := by simp; omega
      rw [this]
      by_cases h1 : j < i
      · rw [if_pos (by omega), if_neg (by omega), if_pos h1, List.getElem?_take, if_pos h1]
      · by_cases h2 : j = i
        · subst h2; simp; omega
        · rw [if_neg (by omega), if_neg h1]; simp; omega
    rw [this]; simp [imarkedFrom]
theorem markIntS_ev (l : List Int) (m : Int) (hl : l.length ≤ 1152921504606846976) (h0 : 0 ≤ m) (hm : m ≤ 1152921504606846976) : Ev (fun k => laws_markIntS.f k l m) (m + l.length, imarkedFrom m l.length) := by
  unfold laws_markIntS.f
  exact Ev_cast (markIntS_l0 m l.length 0 l (by omega) (by omega) hl h0 (by omega)) (by simp)
theorem markText_l0 : ∀ (n : Nat) (s : ByteArray), s.size + n ≤ 4611686018427387904 → ∃ r, Ev (fun k => laws_markText.l0 k (n : Int) s) r := by
  intro n
  induction n using Nat.strongRecOn with
  | ind n ih =>
    intro s h
    by_cases h0 : 0 < n
    · have hsz : ∀ x : Int, (strOfNums [x]).size = 1 := fun x => by simp [strOfNums]; rfl
      obtain ⟨r, hr⟩ := ih (n / 10) (by omega) (strOfNums [(wrap64 (48 + Int.tmod (n : Int) 10)) % 256] ++ s) (by rw [ByteArray.size_append, hsz]; omega)
      refine ⟨r, Ev_succ ?_⟩
      simp only [laws_markText.l0]
      simp only [if_pos (show (n : Int) > 0 by omega), Option.bind_some]
      simp only [hsz, if_pos (show 1 + s.size ≤ 9223372036854775807 by omega)]
      rw [show wrap64 (Int.tdiv (n : Int) 10) = ((n / 10 : Nat) : Int) by rw [Int.tdiv_eq_ediv_of_nonneg (by omega), w64 (by omega) (by omega)]; omega]
      exact hr
    · refine ⟨(⟨#[109]⟩ : ByteArray) ++ s, Ev_succ ?_⟩
      simp only [laws_markText.l0]
      simp only [if_neg (show ¬ (n : Int) > 0 by omega), if_pos (show 1 + s.size ≤ 9223372036854775807 by omega)]
      exact Ev.now _
theorem markText_ev (n : Nat) (h : n ≤ 1152921504606846976) : ∃ r, Ev (fun k => laws_markText.f k (n : Int)) r := by
  unfold laws_markText.f
  by_cases h0 : (n : Int) ≤ 0
  · simp only [if_pos h0]
    exact ⟨_, Ev.now _⟩
  · simp only [if_neg h0]
    exact markText_l0 n _ (by show 0 + n ≤ _; omega)
def putVar (n : Nat) : List Int := if 127 < n then ((n % 128 + 128 : Nat) : Int) :: putVar (n / 128) else [(n : Int)]
termination_by n
decreasing_by omega
theorem putVar_small {n : Nat} (h : n ≤ 127) : putVar n = [(n : Int)] := by rw [putVar, if_neg (by omega)]
theorem putVar_big {n : Nat} (h : 127 < n) : putVar n = ((n % 128 + 128 : Nat) : Int) :: putVar (n / 128) := by rw [putVar, if_pos h]
theorem putVar_length_le : ∀ (m n : Nat), n < 128 ^ (m + 1) → (putVar n).length ≤ m + 1 := by
  intro m
  induction m with
  | zero => intro n h; rw [putVar_small (by simpa using Nat.le_of_lt_succ h)]; simp
  | succ m ih =>
    intro n h
    by_cases hn : 127 < n
    · rw [putVar_big hn]
      have := ih (n / 128) (by rw [Nat.div_lt_iff_lt_mul (by omega), ← Nat.pow_succ]; exact h)
      simp; omega
    · rw [putVar_small (by omega)]; simp
theorem putVar_length_64 {n : Nat} (h : n ≤ 18446744073709551615) : (putVar n).length ≤ 10 := putVar_length_le 9 n (by omega)
theorem putVar_ne_nil (n : Nat) : putVar n ≠ [] := by
  by_cases hn : 127 < n
  · rw [putVar_big hn]; simp
  · rw [putVar_small (by omega)]; simp
theorem putVar_pos (n : Nat) : 1 ≤ (putVar n).length := by
  have := putVar_ne_nil n
  cases h : putVar n with
  | nil => exact absurd h this
  | cons _ _ => simp
theorem or128 : ∀ x : Fin 256, Go.bits .or .u8 (x.val : Int) 128 = ((x.val % 128 + 128 : Nat) : Int) := by decide +kernel
theorem or128_nat (n : Nat) : Go.bits .or .u8 ((n : Int) % 256) 128 = ((n % 128 + 128 : Nat) : Int) := by
  have := or128 ⟨n % 256, by omega⟩
  simp only at this
  rw [show ((n : Int) % 256) = ((n % 256 : Nat) : Int) by omega, this]
  omega
theorem spec_PutVar_l0 : ∀ (n : Nat) (acc : List Int), acc.length + (putVar n).length ≤ 140737488355328 → Ev (fun k => spec_PutVar.l0 k (n : Int) acc) (acc ++ putVar n) := by
  intro n
  induction n using Nat.strongRecOn with
  | ind n ih =>
    intro acc h
    refine Ev_succ ?_
    simp only [spec_PutVar.l0]
    have hp := putVar_pos n
    by_cases hn : 127 < n
    · simp only [if_pos (show (n : Int) > 127 by omega), if_pos (show acc.length < 140737488355328 by omega)]
      rw [or128_nat, show (n : Int) / 128 = ((n / 128 : Nat) : Int) by omega]
      rw [putVar_big hn] at h
      refine Ev_cast (ih (n / 128) (by omega) _ (by simp at h ⊢; omega)) ?_
      rw [putVar_big hn]; simp
    · simp only [if_neg (show ¬ (n : Int) > 127 by omega), if_pos (show acc.length < 140737488355328 by omega)]
      rw [putVar_small (by omega), show (n : Int) % 256 = n by omega]
      exact Ev.now _
theorem spec_PutVar_ev (n : Nat) (h : n ≤ 18446744073709551615) : Ev (fun k => spec_PutVar.f k (n : Int)) (putVar n) := by
  unfold spec_PutVar.f
  have := putVar_length_64 h
  exact Ev_cast (spec_PutVar_l0 n [] (by simp; omega)) (by simp)
theorem impl_PutVar_l0 : ∀ (n : Nat) (acc : List Int), acc.length + (putVar n).length ≤ 140737488355328 → Ev (fun k => impl_PutVar.l0 k (n : Int) acc) (acc ++ putVar n) := by
  intro n
  induction n using Nat.strongRecOn with
  | ind n ih =>
    intro acc h
    refine Ev_succ ?_
    simp only [impl_PutVar.l0]
    have hp := putVar_pos n
    by_cases hn : 127 < n
    · simp only [if_pos (show (n : Int) > 127 by omega), if_pos (show acc.length < 140737488355328 by omega)]
      rw [or128_nat, show (n : Int) / 128 = ((n / 128 : Nat) : Int) by omega]
      rw [putVar_big hn] at h
      refine Ev_cast (ih (n / 128) (by omega) _ (by simp at h ⊢; omega)) ?_
      rw [putVar_big hn]; simp
    · simp only [if_neg (show ¬ (n : Int) > 127 by omega), if_pos (show acc.length < 140737488355328 by omega)]
      rw [putVar_small (by omega), show (n : Int) % 256 = n by omega]
      exact Ev.now _
theorem impl_PutVar_ev (n : Nat) (h : n ≤ 18446744073709551615) : Ev (fun k => impl_PutVar.f k (n : Int)) (putVar n) := by
  unfold impl_PutVar.f
  have := putVar_length_64 h
  exact Ev_cast (impl_PutVar_l0 n [] (by simp; omega)) (by simp)
def zig (n : Int) : Nat := if n < 0 then (-2 * n - 1).toNat else (2 * n).toNat
def putAll : List Int → List Int
  | [] => []
  | n :: t => putVar (zig n) ++ putAll t
def aggB (c s mn mx : Int) (h : List Int) (f : Bool) : List Int := (if f = true then 1 else 0) :: putAll ([c, s, mn, mx] ++ h)
def smallOk (l : List Int) : Prop := ∀ x ∈ l, -1000000000000000000 ≤ x ∧ x ≤ 1000000000000000000
theorem zig_le {n : Int} (h : -1000000000000000000 ≤ n ∧ n ≤ 1000000000000000000) : zig n ≤ 2000000000000000000 := by
  unfold zig
  split <;> omega
theorem zig_wrap {n : Int} (h : -1000000000000000000 ≤ n ∧ n ≤ 1000000000000000000) : (n < 0 → IntKind.u64.wrap (wrap64 (wrap64 (-2 * n) - 1)) = (zig n : Int)) ∧ (¬ n < 0 → IntKind.u64.wrap (wrap64 (2 * n)) = (zig n : Int)) := by
  constructor
  · intro hn
    rw [w64 (n := -2 * n) (by omega) (by omega), w64 (by omega) (by omega), wrap_u64]
    unfold zig
    rw [if_pos hn]; omega
  · intro hn
    rw [w64 (by omega) (by omega), wrap_u64]
    unfold zig
    rw [if_neg hn]; omega
theorem putAll_length : ∀ l, smallOk l → (putAll l).length ≤ 10 * l.length := by
  intro l
  induction l with
  | nil => intro _; simp [putAll]
  | cons a t ih =>
    intro h
    have h1 := putVar_length_64 (n := zig a) (by have := zig_le (h a (List.mem_cons_self ..)); omega)
    have h2 := ih (fun x hx => h x (List.mem_cons_of_mem _ hx))
    simp only [putAll, List.length_append, List.length_cons]
    omega
theorem aggB_length (c s mn mx : Int) (h : List Int) (f : Bool) (hs : smallOk ([c, s, mn, mx] ++ h)) : (aggB c s mn mx h f).length ≤ 10 * h.length + 41 := by
  have := putAll_length _ hs
  unfold aggB
  simp at this ⊢
  omega
theorem goodAgg_small {c s mn mx : Int} {h : List Int} {f : Bool} (hg : goodAgg c s mn mx h f) : smallOk ([c, s, mn, mx] ++ h) := by
  obtain ⟨hc, h8, hh, ht⟩ := hg
  have hb : (-1000000000000000000 ≤ s ∧ s ≤ 1000000000000000000) ∧ (-1000000000 ≤ mn ∧ mn ≤ 1000000000) ∧ (-1000000000 ≤ mx ∧ mx ≤ 1000000000) := by
    rcases ht with ht | ht
    · omega
    · have v1 := ht.2.1
      have v2 := ht.2.2.1
      unfold valueOk at v1 v2
      rcases ht.2.2.2.2 with hz | hz <;> omega
  intro x hx
  simp only [List.cons_append, List.nil_append, List.mem_cons] at hx
  rcases hx with rfl | rfl | rfl | rfl | hx
  · omega
  · omega
  · omega
  · omega
  · have := hh x hx; omega
theorem spec_l4Bytes_l0 (l : List Int) (hs : smallOk l) (hl : l.length ≤ 1000000) : ∀ (d i : Nat) (acc : List Int), l.length - i = d → i ≤ l.length → acc.length + 10 * d ≤ 100000000 → Ev (fun k => spec_l4Bytes.l0 k acc l (l.length : Int) (i : Int)) (acc ++ putAll (l.drop i)) := by
  intro d
  induction d with
  | zero =>
    intro i acc hd hi ha
    refine Ev_succ ?_
    simp only [spec_l4Bytes.l0]
    simp only [if_neg (show ¬ (i : Int) < (l.length : Int) by omega)]
    rw [List.drop_eq_nil_of_le (by omega)]
    exact Ev_cast (Ev.now _) (by simp [putAll])
  | succ d ih =>
    intro i acc hd hi ha
    refine Ev_succ ?_
    simp only [spec_l4Bytes.l0]
    simp only [if_pos (show (i : Int) < (l.length : Int) by omega), if_pos (show 0 ≤ (i : Int) by omega)]
    rw [rd_lt (by omega), drop_cons (l := l) (i := i) (by omega)]
    have hx := hs (l[i]'(by omega)) (List.getElem_mem _)
    generalize l[i]'(by omega) = x at hx ⊢
    have hz := zig_le hx
    have hp := putVar_length_64 (n := zig x) (by omega)
    obtain ⟨z1, z2⟩ := zig_wrap hx
    have put : Ev (fun k => spec_l4Put.f k acc x) (acc ++ putVar (zig x)) := by
      unfold spec_l4Put.f
      by_cases hn : x < 0
      · simp only [if_pos hn, z1 hn]
        refine Ev.bind (spec_PutVar_ev _ (by omega)) ?_
        simp only [if_pos (show acc.length + (putVar (zig x)).length < 140737488355328 by omega)]
        exact Ev.now _
      · simp only [if_neg hn, z2 hn]
        refine Ev.bind (spec_PutVar_ev _ (by omega)) ?_
        simp only [if_pos (show acc.length + (putVar (zig x)).length < 140737488355328 by omega)]
        exact Ev.now _
    refine Ev.bind put ?_
    rw [w64 (by omega) (by omega)]
    refine Ev_cast (ih (i + 1) _ (by omega) (by omega) (by rw [List.length_append]; omega)) ?_
    simp [putAll]
theorem spec_l4Bytes_ev (c s mn mx : Int) (h : List Int) (f : Bool) (hl : h.length ≤ 100000) (hs : smallOk ([c, s, mn, mx] ++ h)) : Ev (fun k => spec_l4Bytes.f k c s mn mx h f) (aggB c s mn mx h f) := by
  unfold spec_l4Bytes.f
  simp only [Option.bind_some]
  have go : ∀ b : Int, Ev (fun k => spec_l4Bytes.j0 k [b] c s mn mx h f) (b :: putAll ([c, s, mn, mx] ++ h)) := by
    intro b
    refine Ev_succ ?_
    simp only [spec_l4Bytes.j0, Option.bind_some]
    simp only [if_pos (show ([c, s, mn, mx] : List Int).length + h.length < 17592186044416 by simp; omega)]
    have := spec_l4Bytes_l0 ([c, s, mn, mx] ++ h) hs (by simp; omega) ([c, s, mn, mx] ++ h).length 0 [b] (by omega) (by omega) (by simp; omega)
    simpa using this
  cases f with
  | true =>
    simp only [if_true, if_pos (show (0 : Int) < (([0] : List Int).length : Int) by simp)]
    exact go 1
  | false =>
    simp only [Bool.false_eq_true, if_false]
    exact go 0
theorem impl_aggBytes_l0 (l : List Int) (hs : smallOk l) (hl : l.length ≤ 1000000) : ∀ (d i : Nat) (acc : List Int), l.length - i = d → i ≤ l.length → acc.length + 10 * d ≤ 100000000 → Ev (fun k => impl_aggBytes.l0 k acc l (l.length : Int) (i : Int)) (acc ++ putAll (l.drop i)) := by
  intro d
  induction d with
  | zero =>
    intro i acc hd hi ha
    refine Ev_succ ?_
    simp only [impl_aggBytes.l0]
    simp only [if_neg (show ¬ (i : Int) < (l.length : Int) by omega)]
    rw [List.drop_eq_nil_of_le (by omega)]
    exact Ev_cast (Ev.now _) (by simp [putAll])
  | succ d ih =>
    intro i acc hd hi ha
    refine Ev_succ ?_
    simp only [impl_aggBytes.l0]
    simp only [if_pos (show (i : Int) < (l.length : Int) by omega), if_pos (show 0 ≤ (i : Int) by omega)]
    rw [rd_lt (by omega), drop_cons (l := l) (i := i) (by omega)]
    have hx := hs (l[i]'(by omega)) (List.getElem_mem _)
    generalize l[i]'(by omega) = x at hx ⊢
    have hz := zig_le hx
    have hp := putVar_length_64 (n := zig x) (by omega)
    obtain ⟨z1, z2⟩ := zig_wrap hx
    rw [w64 (n := (i : Int) + 1) (by omega) (by omega)]
    have nx := ih (i + 1) (acc ++ putVar (zig x)) (by omega) (by omega) (by rw [List.length_append]; omega)
    by_cases hn : x < 0
    · simp only [if_pos hn, z1 hn]
      refine Ev.bind (impl_PutVar_ev _ (by omega)) ?_
      simp only [if_pos (show acc.length + (putVar (zig x)).length < 140737488355328 by omega)]
      exact Ev_cast nx (by simp [putAll])
    · simp only [if_neg hn, z2 hn]
      refine Ev.bind (impl_PutVar_ev _ (by omega)) ?_
      simp only [if_pos (show acc.length + (putVar (zig x)).length < 140737488355328 by omega)]
      exact Ev_cast nx (by simp [putAll])
theorem impl_aggBytes_ev (c s mn mx : Int) (h : List Int) (f : Bool) (hl : h.length ≤ 100000) (hs : smallOk ([c, s, mn, mx] ++ h)) : Ev (fun k => impl_aggBytes.f k c s mn mx h f) (aggB c s mn mx h f) := by
  unfold impl_aggBytes.f
  simp only [Option.bind_some]
  have go : ∀ b : Int, Ev (fun k => impl_aggBytes.j0 k [b] c s mn mx h f) (b :: putAll ([c, s, mn, mx] ++ h)) := by
    intro b
    refine Ev_succ ?_
    simp only [impl_aggBytes.j0]
    refine Ev.bind (a := [c, s, mn, mx] ++ h) (Ev_some ?_) ?_
    · unfold impl_Agg_numbers.f
      simp only [Option.bind_some]
      rw [if_pos (by simp; omega)]
    have := impl_aggBytes_l0 ([c, s, mn, mx] ++ h) hs (by simp; omega) ([c, s, mn, mx] ++ h).length 0 [b] (by omega) (by omega) (by simp; omega)
    simpa using this
  cases f with
  | true =>
    simp only [if_true, if_pos (show (0 : Int) < (([0] : List Int).length : Int) by simp)]
    exact go 1
  | false =>
    simp only [Bool.false_eq_true, if_false]
    exact go 0
def lcpF (a b : ByteArray) : Nat → Nat → Nat
  | 0, n => n
  | d + 1, n => if bt a (n : Int) = bt b (n : Int) then lcpF a b d (n + 1) else n
def lcp (a b : ByteArray) : Nat := lcpF a b (min a.size b.size) 0
theorem lcpF_le (a b : ByteArray) : ∀ d n, lcpF a b d n ≤ n + d := by
  intro d
  induction d with
  | zero => intro n; exact Nat.le_refl _
  | succ d ih =>
    intro n
    unfold lcpF
    split
    · have := ih (n + 1); omega
    · omega
theorem lcp_le (a b : ByteArray) : lcp a b ≤ a.size ∧ lcp a b ≤ b.size := by
  have := lcpF_le a b (min a.size b.size) 0
  unfold lcp
  omega
theorem lcp_empty (b : ByteArray) : lcp ⟨#[]⟩ b = 0 := by
  have := (lcp_le ⟨#[]⟩ b).1
  have e : (⟨#[]⟩ : ByteArray).size = 0 := rfl
  omega
def aggO (e : S51) : List Int := if e.f2 = 2 then [] else aggB e.f3.f0 e.f3.f1 e.f3.f2 e.f3.f3 e.f3.f4 e.f3.f5
def ent (n : Nat) (e : S51) : List Int := (((((putVar n ++ putVar (e.f0.size - n)) ++ putVar e.f1.toNat) ++ [e.f2 % 256]) ++ putVar (aggO e).length) ++ bytesOf (e.f0.extract n e.f0.size)) ++ aggO e
def blk : ByteArray → List S51 → List Int
  | _, [] => []
  | ah, e :: t => ent (lcp ah e.f0) e ++ blk e.f0 t
/-- what is asked of an entry -/
def eOk (e : S51) : Prop := e.f0.size ≤ 140 ∧ (1 ≤ e.f1 ∧ e.f1 ≤ 1000000000) ∧ (e.f2 ≠ 2 → e.f3.f4.length ≤ 8 ∧ smallOk ([e.f3.f0, e.f3.f1, e.f3.f2, e.f3.f3] ++ e.f3.f4))
theorem eOk_of_good {e : S51} (h : eGood e = true) : eOk e := by
  unfold eGood at h
  have h := of_decide_eq_true h
  obtain ⟨h1, h2, h3⟩ := h
  refine ⟨h1.2, h2, fun hk => ?_⟩
  rcases h3 with h3 | h3
  · exact absurd h3.1 hk
  · exact ⟨by have := h3.2.2.1; omega, goodAgg_small h3.2⟩
theorem aggO_length {e : S51} (h : eOk e) : (aggO e).length ≤ 121 := by
  unfold aggO
  split
  · simp
  · rename_i hk
    obtain ⟨h1, h2⟩ := h.2.2 hk
    have := aggB_length e.f3.f0 e.f3.f1 e.f3.f2 e.f3.f3 e.f3.f4 e.f3.f5 h2
    omega
theorem extract_size (s : ByteArray) (n : Nat) : (s.extract n s.size).size = s.size - n := by
  rw [ByteArray.size_extract]
  omega
/-- how long its parts are -/
theorem ent_parts {e : S51} (h : eOk e) {n : Nat} (hn : n ≤ e.f0.size) : (putVar n).length ≤ 10 ∧ (putVar (e.f0.size - n)).length ≤ 10 ∧ (putVar e.f1.toNat).length ≤ 10 ∧ (putVar (aggO e).length).length ≤ 10 ∧ (bytesOf (e.f0.extract n e.f0.size)).length ≤ 140 ∧ (aggO e).length ≤ 121 := by
  have h1 := h.1
  have h2 := h.2.1
  have h3 := aggO_length h
  refine ⟨putVar_length_64 (by omega), putVar_length_64 (by omega), putVar_length_64 (by omega), putVar_length_64 (by omega), ?_, h3⟩
  rw [bytesOf_length, extract_size]
  omega
theorem ent_length {e : S51} (h : eOk e) {n : Nat} (hn : n ≤ e.f0.size) : (ent n e).length ≤ 400 := by
  obtain ⟨h1, h2, h3, h4, h5, h6⟩ := ent_parts h hn
  unfold ent
  simp only [List.length_append, List.length_singleton]
  omega
theorem blk_length : ∀ (l : List S51) (ah : ByteArray), (∀ e ∈ l, eOk e) → (blk ah l).length ≤ 400 * l.length := by
  intro l
  induction l with
  | nil => intro ah _; simp [blk]
  | cons e t ih =>
    intro ah h
    have h1 := ent_length (h e (List.mem_cons_self ..)) (lcp_le ah e.f0).2
    have h2 := ih e.f0 (fun x hx => h x (List.mem_cons_of_mem _ hx))
    simp only [blk, List.length_append, List.length_cons]
    omega
theorem u64_nat (n : Nat) (h : n ≤ 1000000000000) : IntKind.u64.wrap (n : Int) = (n : Int) := by rw [wrap_u64]; omega
theorem u64_seq {x : Int} (h : 1 ≤ x ∧ x ≤ 1000000000) : IntKind.u64.wrap x = ((x.toNat : Nat) : Int) := by rw [wrap_u64]; omega
theorem spec_l7Block_pre (a b : ByteArray) : ∀ d n, spec_l7Block.pre a b d n = lcpF a b d n := by
  intro d
  induction d with
  | zero => intro n; rfl
  | succ d ih => intro n; unfold spec_l7Block.pre lcpF; rw [ih]
theorem spec_l7Block_lc (a b : ByteArray) : spec_l7Block.lc a b = lcp a b := spec_l7Block_pre a b _ 0
def kyAt (l : List S51) : Nat → ByteArray
  | 0 => ⟨#[]⟩
  | j + 1 => (rd_T51 l (j : Int)).f0
def lastF (ah : ByteArray) : List S51 → ByteArray
  | [] => ah
  | e :: t => lastF e.f0 t
theorem lastF_snoc (x : List S51) (e : S51) : ∀ ah, lastF ah (x ++ [e]) = e.f0 := by
  induction x with
  | nil => intro ah; rfl
  | cons a t ih => intro ah; exact ih a.f0
theorem blk_snoc (x : List S51) (e : S51) : ∀ ah, blk ah (x ++ [e]) = blk ah x ++ ent (lcp (lastF ah x) e.f0) e := by
  induction x with
  | nil => intro ah; simp [blk, lastF]
  | cons a t ih => intro ah; simp only [List.cons_append, blk, lastF, ih, List.append_assoc]
theorem take_snoc (l : List S51) {j : Nat} (h : j < l.length) : l.take (j + 1) = l.take j ++ [rd_T51 l (j : Int)] := by
  rw [rd51_lt h, List.take_succ_eq_append_getElem h]
theorem lastF_take (l : List S51) (j : Nat) (h : j ≤ l.length) : lastF ⟨#[]⟩ (l.take j) = kyAt l j := by
  cases j with
  | zero => rfl
  | succ j => rw [take_snoc l (by omega), lastF_snoc]; rfl
theorem blk_take (l : List S51) {j : Nat} (h : j < l.length) : blk ⟨#[]⟩ (l.take (j + 1)) = blk ⟨#[]⟩ (l.take j) ++ ent (lcp (kyAt l j) (rd_T51 l (j : Int)).f0) (rd_T51 l (j : Int)) := by
  rw [take_snoc l h, blk_snoc, lastF_take l j (by omega)]
theorem mem_rd {l : List S51} {P : S51 → Prop} (hm : ∀ e ∈ l, P e) {j : Nat} (h : j < l.length) : P (rd_T51 l (j : Int)) := by
  rw [rd51_lt h]; exact hm _ (List.getElem_mem _)
theorem impl_shared_l0 (a b : ByteArray) (hs : b.size ≤ 1000000) : ∀ (d n : Nat), min a.size b.size - n = d → n ≤ min a.size b.size → Ev (fun k => impl_shared.l0 k a b (n : Int)) ((lcpF a b d n : Nat) : Int) := by
  have hmn : mn (a.size : Int) (b.size : Int) = ((min a.size b.size : Nat) : Int) := by
    unfold mn
    split <;> omega
  intro d
  induction d with
  | zero =>
    intro n hd hn
    refine Ev_succ ?_
    simp only [impl_shared.l0, hmn]
    simp only [if_neg (show ¬ (n : Int) < ((min a.size b.size : Nat) : Int) by omega)]
    exact Ev.now _
  | succ d ih =>
    intro n hd hn
    refine Ev_succ ?_
    simp only [impl_shared.l0, hmn]
    simp only [if_pos (show (n : Int) < ((min a.size b.size : Nat) : Int) by omega), if_pos (show 0 ≤ (n : Int) by omega), if_pos (show (n : Int) < (a.size : Int) by omega), if_pos (show (n : Int) < (b.size : Int) by omega)]
    unfold lcpF
    by_cases hb : bt a (n : Int) = bt b (n : Int)
    · simp only [if_pos hb]
      rw [w64 (by omega) (by omega)]
      exact ih (n + 1) (by omega) (by omega)
    · simp only [if_neg hb]
      exact Ev.now _
theorem impl_shared_ev (a b : ByteArray) (hs : b.size ≤ 1000000) : Ev (fun k => impl_shared.f k a b) ((lcp a b : Nat) : Int) := impl_shared_l0 a b hs (min a.size b.size) 0 (by omega) (by omega)
theorem spec_l7Block_ent (e : S51) (he : eOk e) {n : Nat} (hn : n ≤ e.f0.size) : Ev (fun k => spec_l7Block.ent k n e) (ent n e) := by
  obtain ⟨p1, p2, p3, p4, p5, p6⟩ := ent_parts he hn
  have hs := he.1
  have hq := he.2.1
  have ha : Ev (fun k => spec_l7Block.agg k e) (aggO e) := by
    unfold spec_l7Block.agg aggO
    by_cases hk : e.f2 = 2
    · simp only [if_pos hk]; exact Ev.now _
    · simp only [if_neg hk]
      obtain ⟨h1, h2⟩ := he.2.2 hk
      exact spec_l4Bytes_ev _ _ _ _ _ _ (by omega) h2
  unfold spec_l7Block.ent
  refine Ev.bind ha ?_
  rw [show (e.f0.size : Int) - (n : Int) = ((e.f0.size - n : Nat) : Int) by omega, u64_seq hq]
  refine Ev.bind (spec_PutVar_ev n (by omega)) ?_
  refine Ev.bind (spec_PutVar_ev _ (by omega)) ?_
  refine Ev.bind (spec_PutVar_ev _ (by omega)) ?_
  refine Ev.bind (spec_PutVar_ev _ (by omega)) ?_
  simp only [if_pos (show e.f0.size ≤ 1000000 ∧ (aggO e).length ≤ 1000000 ∧ (putVar n).length ≤ 100 ∧ (putVar (e.f0.size - n)).length ≤ 100 ∧ (putVar e.f1.toNat).length ≤ 100 ∧ (putVar (aggO e).length).length ≤ 100 from ⟨by omega, by omega, by omega, by omega, by omega, by omega⟩)]
  exact Ev.now _
theorem spec_l7Block_run (m : List S51) (hm : ∀ e ∈ m, eOk e) (hl : m.length ≤ 1000000) : ∀ j, j ≤ m.length → Ev (fun k => spec_l7Block.run k m j) (blk ⟨#[]⟩ (m.take j)) := by
  intro j
  induction j with
  | zero => intro _; exact Ev.now _
  | succ j ih =>
    intro hj
    have he := mem_rd hm (j := j) (by omega)
    have hlen := blk_length (m.take j) ⟨#[]⟩ (fun e h => hm e (List.mem_of_mem_take h))
    rw [List.length_take] at hlen
    rw [blk_take m (by omega)]
    simp only [spec_l7Block.run]
    refine Ev.bind (ih (by omega)) ?_
    have hk : spec_l7Block.key m j = kyAt m j := by cases j <;> rfl
    have hle := (lcp_le (kyAt m j) (rd_T51 m (j : Int)).f0).2
    unfold spec_l7Block.step
    rw [hk]
    rw [spec_l7Block_lc]
    refine Ev.bind (spec_l7Block_ent _ he hle) ?_
    simp only [if_pos (show (blk ⟨#[]⟩ (m.take j)).length ≤ 1000000000 by omega)]
    exact Ev.now _
theorem spec_l7Block_ev (m : List S51) (hm : ∀ e ∈ m, eOk e) (hl : m.length ≤ 1000000) : Ev (fun k => spec_l7Block.f k m) (blk ⟨#[]⟩ m) := by
  unfold spec_l7Block.f
  simp only [if_pos hl]
  have := spec_l7Block_run m hm hl m.length (Nat.le_refl _)
  rwa [List.take_length] at this
theorem impl_blockBytes_ent (e : S51) (he : eOk e) {n : Nat} (hn : n ≤ e.f0.size) : Ev (fun k => impl_blockBytes.ent k n e) (ent n e) := by
  obtain ⟨p1, p2, p3, p4, p5, p6⟩ := ent_parts he hn
  have hs := he.1
  have hq := he.2.1
  have ha : Ev (fun k => impl_blockBytes.agg k e) (aggO e) := by
    unfold impl_blockBytes.agg aggO
    by_cases hk : e.f2 = 2
    · simp only [if_pos hk]; exact Ev.now _
    · simp only [if_neg hk]
      obtain ⟨h1, h2⟩ := he.2.2 hk
      exact impl_aggBytes_ev _ _ _ _ _ _ (by omega) h2
  unfold impl_blockBytes.ent
  refine Ev.bind ha ?_
  rw [show (e.f0.size : Int) - (n : Int) = ((e.f0.size - n : Nat) : Int) by omega, u64_seq hq]
  refine Ev.bind (impl_PutVar_ev n (by omega)) ?_
  refine Ev.bind (impl_PutVar_ev _ (by omega)) ?_
  refine Ev.bind (impl_PutVar_ev _ (by omega)) ?_
  refine Ev.bind (impl_PutVar_ev _ (by omega)) ?_
  simp only [if_pos (show e.f0.size ≤ 1000000 ∧ (aggO e).length ≤ 1000000 ∧ (putVar n).length ≤ 100 ∧ (putVar (e.f0.size - n)).length ≤ 100 ∧ (putVar e.f1.toNat).length ≤ 100 ∧ (putVar (aggO e).length).length ≤ 100 from ⟨by omega, by omega, by omega, by omega, by omega, by omega⟩)]
  exact Ev.now _
theorem impl_blockBytes_run (m : List S51) (hm : ∀ e ∈ m, eOk e) (hl : m.length ≤ 1000000) : ∀ j, j ≤ m.length → Ev (fun k => impl_blockBytes.run k m j) (blk ⟨#[]⟩ (m.take j)) := by
  intro j
  induction j with
  | zero => intro _; exact Ev.now _
  | succ j ih =>
    intro hj
    have he := mem_rd hm (j := j) (by omega)
    have hlen := blk_length (m.take j) ⟨#[]⟩ (fun e h => hm e (List.mem_of_mem_take h))
    rw [List.length_take] at hlen
    rw [blk_take m (by omega)]
    simp only [impl_blockBytes.run]
    refine Ev.bind (ih (by omega)) ?_
    have hk : impl_blockBytes.key m j = kyAt m j := by cases j <;> rfl
    have hle := (lcp_le (kyAt m j) (rd_T51 m (j : Int)).f0).2
    unfold impl_blockBytes.step
    rw [hk]
    have hn : Ev (fun k => impl_blockBytes.lcn k j (kyAt m j) (rd_T51 m (j : Int)).f0) ((lcp (kyAt m j) (rd_T51 m (j : Int)).f0 : Nat) : Int) := by
      unfold impl_blockBytes.lcn
      by_cases h0 : j = 0
      · subst h0
        simp only [if_true]
        rw [show kyAt m 0 = ⟨#[]⟩ from rfl, lcp_empty]
        exact Ev.now _
      · simp only [if_neg h0]
        exact impl_shared_ev _ _ (by have := he.1; omega)
    refine Ev.bind hn ?_
    simp only [if_pos (show 0 ≤ ((lcp (kyAt m j) (rd_T51 m (j : Int)).f0 : Nat) : Int) ∧ ((lcp (kyAt m j) (rd_T51 m (j : Int)).f0 : Nat) : Int) ≤ ((rd_T51 m (j : Int)).f0.size : Int) from ⟨by omega, by omega⟩), Int.toNat_natCast]
    refine Ev.bind (impl_blockBytes_ent _ he hle) ?_
    simp only [if_pos (show (blk ⟨#[]⟩ (m.take j)).length ≤ 1000000000 by omega)]
    exact Ev.now _
theorem impl_blockBytes_ev (m : List S51) (hm : ∀ e ∈ m, eOk e) (hl : m.length ≤ 1000000) : Ev (fun k => impl_blockBytes.f k m) (blk ⟨#[]⟩ m) := by
  unfold impl_blockBytes.f
  simp only [if_pos hl]
  have := impl_blockBytes_run m hm hl m.length (Nat.le_refl _)
  rwa [List.take_length] at this
def kys (m : List S51) : List ByteArray := slices_Compact_string_string.cp (m.map (·.f0))
theorem ba_toList_loop (s : ByteArray) : ∀ (d i : Nat) (r : List UInt8), s.size - i = d → i ≤ s.size → ByteArray.toList.loop s i r = r.reverse ++ s.data.toList.drop i := by
  intro d
  induction d with
  | zero =>
    intro i r hd hi
    rw [ByteArray.toList.loop, if_neg (by omega), List.drop_eq_nil_of_le (by simp; show s.data.size ≤ i; have : s.size = s.data.size := rfl; omega)]
    simp
  | succ d ih =>
    intro i r hd hi
    have hs : s.size = s.data.size := rfl
    rw [ByteArray.toList.loop, if_pos (by omega), ih (i + 1) _ (by omega) (by omega)]
    have : s.data.toList.drop i = s.get! i :: s.data.toList.drop (i + 1) := by
      rw [List.drop_eq_getElem_cons (by simp; omega)]
      congr 1
      simp [ByteArray.get!]
      rw [getElem!_pos s.data i (by omega)]
    rw [this]; simp
theorem ba_toList (s : ByteArray) : s.toList = s.data.toList := by
  unfold ByteArray.toList
  rw [ba_toList_loop s s.size 0 [] (by omega) (by omega)]
  simp
def kStep (m : List S51) (i : Nat) : List ByteArray := if i = 0 ∨ ((rd_T51 m (i : Int)).f0).data.toList ≠ ((rd_T51 m ((i - 1 : Nat) : Int)).f0).data.toList then [(rd_T51 m (i : Int)).f0] else []
def kFrom (m : List S51) : Nat → Nat → List ByteArray
  | 0, _ => []
  | d + 1, i => kStep m i ++ kFrom m d (i + 1)
theorem kFrom_range (m : List S51) (p : Nat → Bool) (g : Nat → ByteArray) (hp : ∀ i, i < m.length → p i = decide (i = 0 ∨ ((rd_T51 m (i : Int)).f0).data.toList ≠ ((rd_T51 m ((i - 1 : Nat) : Int)).f0).data.toList)) (hg : ∀ i, i < m.length → g i = (rd_T51 m (i : Int)).f0) : ∀ (d i : Nat), i + d = m.length → ((List.range' i d).filter p).map g = kFrom m d i := by
  intro d
  induction d with
  | zero => intro i _; rfl
  | succ d ih =>
    intro i h
    rw [List.range'_succ, List.filter_cons, kFrom, ← ih (i + 1) (by omega)]
    unfold kStep
    rw [hp i (by omega)]
    by_cases hc : i = 0 ∨ ((rd_T51 m (i : Int)).f0).data.toList ≠ ((rd_T51 m ((i - 1 : Nat) : Int)).f0).data.toList
    · rw [if_pos hc, if_pos (by simpa using hc), List.map_cons, hg i (by omega)]
      rfl
    · rw [if_neg hc, if_neg (by simpa using hc)]
      rfl
theorem kys_eq (m : List S51) : kys m = kFrom m m.length 0 := by
  unfold kys slices_Compact_string_string.cp Lib.compact Lib.compactUpTo
  have hl : (slices_Compact_string_string.dl (m.map (·.f0))).length = m.length := by simp [slices_Compact_string_string.dl]
  have hx : ∀ i (hi : i < m.length), (slices_Compact_string_string.dl (m.map (·.f0))).toArray[i]! = ((rd_T51 m (i : Int)).f0).data.toList := by
    intro i hi
    rw [rd51_lt hi]
    simp [slices_Compact_string_string.dl, hi]
  rw [hl, List.map_map, List.range_eq_range']
  refine kFrom_range m _ _ ?_ ?_ m.length 0 (by omega)
  · intro i hi
    unfold Lib.keeps
    rw [decide_eq_decide]
    by_cases h0 : i = 0
    · simp [h0]
    · rw [hx i hi, hx (i - 1) (by omega)]
  · intro i hi
    simp only [Function.comp]
    rw [hx i hi]
theorem kFrom_mem (m : List S51) : ∀ (d i : Nat), i + d ≤ m.length → ∀ s ∈ kFrom m d i, ∃ e ∈ m, s = e.f0 := by
  intro d
  induction d with
  | zero => intro i _ s hs; cases hs
  | succ d ih =>
    intro i h s hs
    rcases List.mem_append.1 hs with hs | hs
    · unfold kStep at hs
      split at hs
      · rw [List.mem_singleton] at hs
        rw [rd51_lt (by omega)] at hs
        exact ⟨_, List.getElem_mem _, hs⟩
      · cases hs
    · exact ih (i + 1) (by omega) s hs
theorem kFrom_len (m : List S51) : ∀ (d i : Nat), (kFrom m d i).length ≤ d := by
  intro d
  induction d with
  | zero => intro i; simp [kFrom]
  | succ d ih =>
    intro i
    have := ih (i + 1)
    simp only [kFrom, List.length_append]
    unfold kStep
    split <;> simp <;> omega
theorem kys_len (m : List S51) : (kys m).length ≤ m.length := by rw [kys_eq]; exact kFrom_len m _ _
theorem kys_mem (m : List S51) : ∀ s ∈ kys m, ∃ e ∈ m, s = e.f0 := by rw [kys_eq]; exact kFrom_mem m _ _ (by omega)
theorem spec_l7Keys_l0 (m : List S51) (hl : m.length ≤ 1000000) : ∀ (d i : Nat) (acc : List ByteArray), m.length - i = d → i ≤ m.length → acc.length ≤ i → Ev (fun k => spec_l7Keys.l0 k m acc m (m.length : Int) (i : Int)) (acc ++ kFrom m d i) := by
  intro d
  induction d with
  | zero =>
    intro i acc hd hi ha
    refine Ev_succ ?_
    simp only [spec_l7Keys.l0]
    simp only [if_neg (show ¬ (i : Int) < (m.length : Int) by omega)]
    exact Ev_cast (Ev.now _) (by simp [kFrom])
  | succ d ih =>
    intro i acc hd hi ha
    refine Ev_succ ?_
    simp only [spec_l7Keys.l0]
    simp only [if_pos (show (i : Int) < (m.length : Int) by omega), if_pos (show 0 ≤ (i : Int) by omega), if_pos (show acc.length < 8796093022208 by omega)]
    rw [w64 (n := (i : Int) + 1) (by omega) (by omega)]
    have push : kStep m i = [(rd_T51 m (i : Int)).f0] → Ev (fun k => spec_l7Keys.l0 k m (acc ++ [(rd_T51 m (i : Int)).f0]) m (m.length : Int) ((i : Int) + 1)) (acc ++ kFrom m (d + 1) i) := by
      intro hk
      refine Ev_cast (ih (i + 1) _ (by omega) (by omega) (by simp; omega)) ?_
      rw [kFrom, hk, List.append_assoc]
    by_cases h0 : i = 0
    · simp only [if_pos (show (i : Int) = 0 by omega)]
      exact push (by unfold kStep; rw [if_pos (.inl h0)])
    · simp only [if_neg (show ¬ (i : Int) = 0 by omega)]
      rw [w64 (n := (i : Int) - 1) (by omega) (by omega), show (i : Int) - 1 = ((i - 1 : Nat) : Int) by omega]
      simp only [if_pos (show 0 ≤ ((i - 1 : Nat) : Int) by omega), if_pos (show ((i - 1 : Nat) : Int) < (m.length : Int) by omega)]
      rw [ba_toList, ba_toList]
      by_cases he : ((rd_T51 m ((i - 1 : Nat) : Int)).f0).data.toList = ((rd_T51 m (i : Int)).f0).data.toList
      · simp only [if_pos he]
        refine Ev_cast (ih (i + 1) acc (by omega) (by omega) (by omega)) ?_
        rw [kFrom]
        unfold kStep
        rw [if_neg (by intro h; rcases h with h | h; exact h0 h; exact h he.symm)]
        rfl
      · simp only [if_neg he]
        exact push (by unfold kStep; rw [if_pos (.inr (fun e => he e.symm))])
theorem spec_l7Keys_ev (m : List S51) (hl : m.length ≤ 1000000) : Ev (fun k => spec_l7Keys.f k m) (kys m) := by
  unfold spec_l7Keys.f
  rw [kys_eq]
  have := spec_l7Keys_l0 m hl m.length 0 [] (by omega) (by omega) (by simp)
  simpa using this
theorem impl_keysOf_l0 (m : List S51) (hl : m.length ≤ 1000000) : ∀ (d i : Nat) (acc : List ByteArray), m.length - i = d → i ≤ m.length → acc = (m.map (·.f0)).take i → Ev (fun k => impl_keysOf.l0 k acc m (m.length : Int) (i : Int)) (kys m) := by
  intro d
  induction d with
  | zero =>
    intro i acc hd hi ha
    refine Ev_succ ?_
    simp only [impl_keysOf.l0]
    simp only [if_neg (show ¬ (i : Int) < (m.length : Int) by omega)]
    rw [List.take_of_length_le (by simp; omega)] at ha
    subst ha
    refine Ev.bind (a := kys m) (Ev_some ?_) (Ev.now _)
    unfold slices_Compact_string_string.f
    rw [if_pos (by simp; omega)]
    rfl
  | succ d ih =>
    intro i acc hd hi ha
    refine Ev_succ ?_
    simp only [impl_keysOf.l0]
    have hal : acc.length = i := by rw [ha, List.length_take]; simp; omega
    simp only [if_pos (show (i : Int) < (m.length : Int) by omega), if_pos (show 0 ≤ (i : Int) by omega), if_pos (show acc.length < 8796093022208 by omega)]
    rw [w64 (n := (i : Int) + 1) (by omega) (by omega), rd51_lt (by omega)]
    refine ih (i + 1) _ (by omega) (by omega) ?_
    rw [List.take_succ_eq_append_getElem (by simp; omega), ← ha]
    simp
theorem impl_keysOf_ev (m : List S51) (hl : m.length ≤ 1000000) : Ev (fun k => impl_keysOf.f k m) (kys m) := impl_keysOf_l0 m hl m.length 0 [] (by omega) (by omega) (by simp)
def tN (m : List S51) : Nat := (m.length + 3) / 4
def chk (m : List S51) (j : Nat) : List S51 := (m.drop (4 * j)).take 4
def lastK (m : List S51) (j : Nat) : ByteArray := (rd_T51 (chk m j) (((chk m j).length : Int) - 1)).f0
def cb (m : List S51) (j : Nat) : List Int := blk ⟨#[]⟩ (chk m j)
def szd (s : ByteArray) : List Int := putVar s.size ++ bytesOf s
def outO (m : List S51) : Nat → List Int
  | 0 => []
  | j + 1 => outO m j ++ cb m j
def outI (m : List S51) : Nat → List Int
  | 0 => []
  | j + 1 => ((outI m j ++ szd (lastK m j)) ++ putVar (outO m j).length) ++ putVar (cb m j).length
def fBits (m : List S51) (p : Int) : List Int := setKeys (waysOf p) (List.replicate (bytesFor (kys m).length p) 0) (kys m)
def tBody (m : List S51) (p : Int) : List Int := ((outO m (tN m) ++ ((waysOf p : Int) % 256 :: fBits m p)) ++ outI m (tN m)) ++ ((fixedB (outO m (tN m)).length 4 ++ fixedB ((outO m (tN m)).length + (fBits m p).length + 1) 4) ++ fixedB m.length 4)
def tab (m : List S51) (p : Int) : List Int := (tBody m p ++ fixedB (crcOf (tBody m p)).toNat 4) ++ [84, 66, 76, 49]
theorem fBits_length (m : List S51) (p : Int) : 1 ≤ (fBits m p).length ∧ (fBits m p).length ≤ 200 := by
  unfold fBits
  rw [setKeys_length, List.length_replicate]
  exact bytesFor_range _ _
theorem crcOf_range (l : List Int) : 0 ≤ crcOf l ∧ crcOf l < 4294967296 := bits_range32 _ _ _
section
variable {m : List S51}
theorem chk_length (m : List S51) (j : Nat) : (chk m j).length = min 4 (m.length - 4 * j) := by unfold chk; rw [List.length_take, List.length_drop]
theorem chk_mem {m : List S51} {j : Nat} {e : S51} (h : e ∈ chk m j) : e ∈ m := List.mem_of_mem_drop (List.mem_of_mem_take h)
theorem lastK_eq {j : Nat} (hj : j < tN m) : ∃ (h : min (4 * j + 4) m.length - 1 < m.length), lastK m j = (m[min (4 * j + 4) m.length - 1]'h).f0 := by
  unfold tN at hj
  have hl := chk_length m j
  refine ⟨by omega, ?_⟩
  unfold lastK
  rw [show (((chk m j).length : Int) - 1) = (((chk m j).length - 1 : Nat) : Int) by omega, rd51_lt (by omega)]
  have e : (chk m j)[(chk m j).length - 1]'(by omega) = m[4 * j + ((chk m j).length - 1)]'(by omega) := by
    simp [chk]
  rw [e]
  congr 2
  omega
theorem lastK_size (hm : ∀ e ∈ m, eOk e) {j : Nat} (hj : j < tN m) : (lastK m j).size ≤ 140 := by
  obtain ⟨h, e⟩ := lastK_eq hj
  rw [e]
  exact (hm _ (List.getElem_mem h)).1
theorem cb_length (hm : ∀ e ∈ m, eOk e) (j : Nat) : (cb m j).length ≤ 1600 := by
  have := blk_length (chk m j) ⟨#[]⟩ (fun e he => hm e (chk_mem he))
  have := chk_length m j
  unfold cb
  omega
theorem outO_length (hm : ∀ e ∈ m, eOk e) : ∀ j, (outO m j).length ≤ 1600 * j := by
  intro j
  induction j with
  | zero => simp [outO]
  | succ j ih =>
    have := cb_length hm j
    simp only [outO, List.length_append]
    omega
theorem szd_length {s : ByteArray} (h : s.size ≤ 140) : (szd s).length ≤ 150 := by
  have := putVar_length_64 (n := s.size) (by omega)
  unfold szd
  rw [List.length_append, bytesOf_length]
  omega
theorem outI_length (hm : ∀ e ∈ m, eOk e) (hl : m.length ≤ 400) : ∀ j, j ≤ tN m → (outI m j).length ≤ 170 * j := by
  intro j
  induction j with
  | zero => intro _; simp [outI]
  | succ j ih =>
    intro hj
    have h1 := ih (by omega)
    have h2 := szd_length (lastK_size hm (j := j) (by omega))
    have h3 := outO_length hm j
    have h4 := cb_length hm j
    have h5 : tN m ≤ 100 := by unfold tN; omega
    have h6 := putVar_length_64 (n := (outO m j).length) (by omega)
    have h7 := putVar_length_64 (n := (cb m j).length) (by omega)
    simp only [outI, List.length_append]
    omega
end
theorem spec_l7Build_run (m : List S51) (hm : ∀ e ∈ m, eOk e) (hl : m.length ≤ 100) : ∀ j, j ≤ tN m → Ev (fun k => spec_l7Build.run k m j) (outO m j, outI m j) := by
  have hN : tN m ≤ 25 := by unfold tN; omega
  intro j
  induction j with
  | zero => intro _; exact Ev.now _
  | succ j ih =>
    intro hj
    obtain ⟨hx, hk⟩ := lastK_eq (m := m) (j := j) (by omega)
    have hky : spec_l7Build.ky m j = lastK m j := by unfold spec_l7Build.ky; rw [rd51_lt hx, hk]
    have hks := lastK_size hm (j := j) (by omega)
    have hb := cb_length hm j
    have h3 := outO_length hm j
    have h4 := outI_length hm (by omega) j (by omega)
    simp only [spec_l7Build.run]
    refine Ev.bind (ih (by omega)) ?_
    unfold spec_l7Build.step
    rw [show spec_l7Build.ch m j = chk m j from rfl, hky]
    refine Ev.bind (spec_l7Block_ev (chk m j) (fun e he => hm e (chk_mem he)) (by rw [chk_length]; omega)) ?_
    simp only [outO, outI]
    unfold cb szd
    unfold cb at hb
    generalize lastK m j = s at hks ⊢
    generalize blk ⟨#[]⟩ (chk m j) = b at hb ⊢
    have p1 := putVar_length_64 (n := s.size) (by omega)
    have p2 := putVar_length_64 (n := (outO m j).length) (by omega)
    have p3 := putVar_length_64 (n := b.length) (by omega)
    refine Ev.bind (spec_PutVar_ev _ (by omega)) ?_
    refine Ev.bind (spec_PutVar_ev _ (by omega)) ?_
    refine Ev.bind (spec_PutVar_ev _ (by omega)) ?_
    simp only [if_pos (show b.length ≤ 1000000 ∧ (putVar s.size).length ≤ 100 ∧ s.size ≤ 1000000 ∧ (putVar (outO m j).length).length ≤ 100 ∧ (putVar b.length).length ≤ 100 ∧ (outO m j).length ≤ 1000000000 ∧ (outI m j).length ≤ 1000000000 from ⟨by omega, by omega, by omega, by omega, by omega, by omega, by omega⟩)]
    exact Ev_cast (Ev.now _) (by simp only [List.append_assoc])
theorem spec_l7Build_ev (m : List S51) (hm : ∀ e ∈ m, eOk e) (hl : m.length ≤ 100) (p : Int) (hp : 1 ≤ p ∧ p ≤ 20) : Ev (fun k => spec_l7Build.f k m p) (tab m p) := by
  have hN : tN m ≤ 25 := by unfold tN; omega
  have hO := outO_length hm (tN m)
  have hI := outI_length hm (by omega) (tN m) (Nat.le_refl _)
  have hF := fBits_length m p
  have hW := waysOf_range p
  unfold spec_l7Build.f
  simp only [if_pos (show m.length ≤ 1000 by omega)]
  refine Ev.bind (spec_l7Build_run m hm hl (tN m) (Nat.le_refl _)) ?_
  unfold spec_l7Build.tail
  refine Ev.bind (spec_l7Keys_ev m (by omega)) ?_
  have hkl := kys_len m
  refine Ev.bind (spec_l6Filter_ev (kys m) (fun s hs => by obtain ⟨e, he, rfl⟩ := kys_mem m s hs; have := (hm e he).1; omega) (by omega) p hp) ?_
  have e0 : setKeys (waysOf p) (List.replicate (bytesFor (kys m).length p) 0) (kys m) = fBits m p := rfl
  rw [e0]
  unfold tab tBody
  generalize outO m (tN m) = o at hO ⊢
  generalize outI m (tN m) = ix at hI ⊢
  generalize fBits m p = b at hF ⊢
  generalize waysOf p = W at hW ⊢
  refine Ev.bind (spec_l1Fixed_ev o.length 4 (by omega)) ?_
  have f1 := fixedB_length 4 o.length
  have f2 := fixedB_length 4 (o.length + b.length + 1)
  have f3 := fixedB_length 4 m.length
  simp only [show o.length + 1 + b.length = o.length + b.length + 1 by omega]
  refine Ev.bind (spec_l1Fixed_ev (o.length + b.length + 1) 4 (by omega)) ?_
  refine Ev.bind (spec_l1Fixed_ev m.length 4 (by omega)) ?_
  simp only [if_pos (show o.length ≤ 1000000000 ∧ b.length ≤ 1000000 ∧ ix.length ≤ 1000000000 ∧ (fixedB o.length 4).length ≤ 100 ∧ (fixedB (o.length + b.length + 1) 4).length ≤ 100 ∧ (fixedB m.length 4).length ≤ 100 from ⟨by omega, by omega, by omega, by omega, by omega, by omega⟩)]
  have eb : (((((o ++ [(W : Int) % 256]) ++ b) ++ ix) ++ fixedB o.length 4) ++ fixedB (o.length + b.length + 1) 4) ++ fixedB m.length 4 = ((o ++ ((W : Int) % 256 :: b)) ++ ix) ++ ((fixedB o.length 4 ++ fixedB (o.length + b.length + 1) 4) ++ fixedB m.length 4) := by simp
  rw [eb]
  have lb : (((o ++ ((W : Int) % 256 :: b)) ++ ix) ++ ((fixedB o.length 4 ++ fixedB (o.length + b.length + 1) 4) ++ fixedB m.length 4)).length ≤ 100000 := by
    rw [List.length_append, List.length_append, List.length_append, List.length_append, List.length_append, List.length_cons]
    omega
  generalize ((o ++ ((W : Int) % 256 :: b)) ++ ix) ++ ((fixedB o.length 4 ++ fixedB (o.length + b.length + 1) 4) ++ fixedB m.length 4) = q at lb ⊢
  refine Ev.bind (spec_l1Crc_ev q (by omega)) ?_
  have hc := crcOf_range q
  rw [w64 (by omega) (by omega), show crcOf q = (((crcOf q).toNat : Nat) : Int) by omega]
  refine Ev.bind (spec_l1Fixed_ev (crcOf q).toNat 4 (by omega)) ?_
  have f4 := fixedB_length 4 (crcOf q).toNat
  simp only [Int.toNat_natCast]
  simp only [if_pos (show (fixedB (crcOf q).toNat 4).length ≤ 100 by omega)]
  exact Ev.now _
theorem Ev_all {α : Type} (g : Nat → Nat → Option α) (r : Nat → α) (h : ∀ n, Ev (fun k => g k n) (r n)) : ∀ M : Nat, ∃ K, ∀ k, K ≤ k → ∀ n, n < M → g k n = some (r n) := by
  intro M
  induction M with
  | zero => exact ⟨0, fun _ _ n hn => absurd hn (Nat.not_lt_zero n)⟩
  | succ M ih =>
    obtain ⟨K, hK⟩ := ih
    obtain ⟨J, hJ⟩ := h M
    refine ⟨max K J, fun k hk n hn => ?_⟩
    by_cases e : n < M
    · exact hK k (by omega) n e
    · obtain rfl : n = M := by omega
      exact hJ k (by omega)
theorem impl_sized_ev (s : ByteArray) (h : s.size ≤ 140) : Ev (fun k => impl_sized.f k s) (szd s) := by
  unfold impl_sized.f szd
  rw [u64_nat s.size (by omega)]
  refine Ev.bind (impl_PutVar_ev _ (by omega)) ?_
  have p1 := putVar_length_64 (n := s.size) (by omega)
  simp only [if_pos (show (putVar s.size).length + s.size < 140737488355328 by omega)]
  exact Ev.now _
theorem impl_fixed_ev (n : Nat) (h : n < 4294967296) : Ev (fun k => impl_fixed.f k (n : Int)) (fixedB n 4) := by
  unfold impl_fixed.f
  refine Ev.bind (impl_PutFixed_ev (n : Int) 4 (by omega)) ?_
  unfold putFixed
  rw [if_pos ⟨by omega, by omega, by omega, fun _ => by rw [Int.toNat_natCast]; exact Nat.div_eq_of_lt h⟩]
  exact Ev.now _
theorem impl_table_run (m : List S51) (hm : ∀ e ∈ m, eOk e) (k : Nat) (hl : m.length ≤ 100) (h1 : ∀ j, j < tN m → impl_blockBytes.f k (chk m j) = some (cb m j)) (h2 : ∀ j, j < tN m → impl_sized.f k (lastK m j) = some (szd (lastK m j))) (h3 : ∀ n, n < impl_table.M → impl_PutVar.f k (n : Int) = some (putVar n)) : ∀ j, j ≤ tN m → impl_table.run k m (List.range j) = (outO m j, outI m j) := by
  intro j
  induction j with
  | zero => intro _; rfl
  | succ j ih =>
    intro hj
    have hM : impl_table.M = 1000000000 := rfl
    have hO := outO_length hm j
    have hb := cb_length hm j
    have hN : tN m ≤ 25 := by unfold tN; omega
    have e1 : impl_table.bb k m j = cb m j := by
      unfold impl_table.bb
      rw [show impl_table.ch m j = chk m j from rfl, h1 j (by omega)]
      rfl
    have e2 : impl_table.ss k m j = szd (lastK m j) := by
      unfold impl_table.ss
      rw [show impl_table.ky m j = lastK m j from rfl, h2 j (by omega)]
      rfl
    have e3 : ∀ n, n < impl_table.M → impl_table.pv k n = putVar n := by
      intro n hn
      unfold impl_table.pv
      rw [h3 n hn]
      rfl
    rw [List.range_succ, impl_table.run_snoc, ih (by omega)]
    unfold impl_table.step
    simp only [e1, e2, e3 (outO m j).length (by omega), e3 (cb m j).length (by omega), outO, outI]
theorem impl_table_ev (m : List S51) (hm : ∀ e ∈ m, eOk e) (h0 : 1 ≤ m.length) (hl : m.length ≤ 100) (p : Int) (hp : 1 ≤ p ∧ p ≤ 20) : Ev (fun k => impl_table.f k m p) (tab m p) := by
  have hN : tN m ≤ 25 := by unfold tN; omega
  have hM : impl_table.M = 1000000000 := rfl
  obtain ⟨K1, hK1⟩ := Ev_all (fun k j => impl_blockBytes.f k (chk m j)) (fun j => cb m j) (fun j => impl_blockBytes_ev (chk m j) (fun e he => hm e (chk_mem he)) (by rw [chk_length]; omega)) (tN m)
  obtain ⟨K2, hK2⟩ : ∃ K, ∀ k, K ≤ k → ∀ j, j < tN m → impl_sized.f k (lastK m j) = some (szd (lastK m j)) := by
    have : ∀ M, M ≤ tN m → ∃ K, ∀ k, K ≤ k → ∀ j, j < M → impl_sized.f k (lastK m j) = some (szd (lastK m j)) := by
      intro M
      induction M with
      | zero => intro _; exact ⟨0, fun _ _ n hn => absurd hn (Nat.not_lt_zero n)⟩
      | succ M ih =>
        intro hM2
        obtain ⟨K, hK⟩ := ih (by omega)
        obtain ⟨J, hJ⟩ := impl_sized_ev (lastK m M) (lastK_size hm (by omega))
        refine ⟨max K J, fun k hk n hn => ?_⟩
        by_cases e : n < M
        · exact hK k (by omega) n e
        · obtain rfl : n = M := by omega
          exact hJ k (by omega)
    exact this (tN m) (Nat.le_refl _)
  obtain ⟨K3, hK3⟩ : ∃ K, ∀ k, K ≤ k → ∀ n, n < impl_table.M → impl_PutVar.f k (n : Int) = some (putVar n) := by
    have : ∀ M, M ≤ impl_table.M → ∃ K, ∀ k, K ≤ k → ∀ n, n < M → impl_PutVar.f k (n : Int) = some (putVar n) := by
      intro M
      induction M with
      | zero => intro _; exact ⟨0, fun _ _ n hn => absurd hn (Nat.not_lt_zero n)⟩
      | succ M ih =>
        intro hM2
        obtain ⟨K, hK⟩ := ih (by omega)
        obtain ⟨J, hJ⟩ := impl_PutVar_ev M (by omega)
        refine ⟨max K J, fun k hk n hn => ?_⟩
        by_cases e : n < M
        · exact hK k (by omega) n e
        · obtain rfl : n = M := by omega
          exact hJ k (by omega)
    exact this impl_table.M (Nat.le_refl _)
  have tail : Ev (fun k => impl_table.tail k m p (outO m (tN m)) (outI m (tN m))) (tab m p) := by
    have hO := outO_length hm (tN m)
    have hI := outI_length hm (by omega) (tN m) (Nat.le_refl _)
    have hF := fBits_length m p
    have hW := waysOf_range p
    have hkl := kys_len m
    unfold impl_table.tail
    refine Ev.bind (impl_keysOf_ev m (by omega)) ?_
    refine Ev.bind (impl_FilterOf_ev (kys m) (fun s hs => by obtain ⟨e, he, rfl⟩ := kys_mem m s hs; have := (hm e he).1; omega) (by omega) p) ?_
    have e0 : filterOf (kys m) p = ((waysOf p : Int), fBits m p, true) := by
      unfold filterOf fBits
      rw [if_pos ⟨by omega, hp.1, hp.2⟩]
    rw [e0]
    simp only
    refine Ev.bind (Ev_some (impl_FilterBytes_eq _ _ (by omega))) ?_
    have e1 : filterBytes (waysOf p : Int) (fBits m p) = ((waysOf p : Int) % 256 :: fBits m p, true) := by
      unfold filterBytes goodFilter
      rw [decide_eq_true ⟨⟨by omega, by omega⟩, hF.1, hF.2⟩]
      rfl
    rw [e1]
    unfold tab tBody
    simp only
    generalize outO m (tN m) = o at hO ⊢
    generalize outI m (tN m) = ix at hI ⊢
    generalize fBits m p = b at hF ⊢
    generalize waysOf p = W at hW ⊢
    refine Ev.bind (impl_fixed_ev o.length (by omega)) ?_
    rw [w64 (by simp only [List.length_cons]; omega) (by simp only [List.length_cons]; omega), show (o.length : Int) + (((W : Int) % 256 :: b).length : Int) = ((o.length + b.length + 1 : Nat) : Int) by simp only [List.length_cons]; omega]
    refine Ev.bind (impl_fixed_ev (o.length + b.length + 1) (by omega)) ?_
    refine Ev.bind (impl_fixed_ev m.length (by omega)) ?_
    have f1 := fixedB_length 4 o.length
    have f2 := fixedB_length 4 (o.length + b.length + 1)
    have f3 := fixedB_length 4 m.length
    simp only [if_pos (show (fixedB o.length 4).length ≤ 100 ∧ (fixedB (o.length + b.length + 1) 4).length ≤ 100 ∧ (fixedB m.length 4).length ≤ 100 ∧ o.length + ((W : Int) % 256 :: b).length + ix.length ≤ 900000 by simp only [List.length_cons]; omega)]
    have lb : (((o ++ ((W : Int) % 256 :: b)) ++ ix) ++ ((fixedB o.length 4 ++ fixedB (o.length + b.length + 1) 4) ++ fixedB m.length 4)).length ≤ 100000 := by
      rw [List.length_append, List.length_append, List.length_append, List.length_append, List.length_append, List.length_cons]
      omega
    generalize ((o ++ ((W : Int) % 256 :: b)) ++ ix) ++ ((fixedB o.length 4 ++ fixedB (o.length + b.length + 1) 4) ++ fixedB m.length 4) = q at lb ⊢
    refine Ev.bind (impl_Crc32c_ev q (by omega)) ?_
    have hc := crcOf_range q
    rw [w64 (by omega) (by omega), show crcOf q = (((crcOf q).toNat : Nat) : Int) by omega]
    refine Ev.bind (impl_fixed_ev (crcOf q).toNat (by omega)) ?_
    have f4 := fixedB_length 4 (crcOf q).toNat
    simp only [Int.toNat_natCast]
    simp only [if_pos (show (fixedB (crcOf q).toNat 4).length ≤ 100 by omega)]
    exact Ev.now _
  obtain ⟨K4, hK4⟩ := tail
  refine ⟨max (max K1 K2) (max K3 K4), fun k hk => ?_⟩
  have a1 := hK1 k (by omega)
  have a2 := hK2 k (by omega)
  have a3 := hK3 k (by omega)
  have a4 := hK4 k (by omega)
  have hg : impl_table.good k m = true := by
    refine impl_table.good_shut ⟨by omega, by omega⟩ ?_ ?_
    · intro j hj
      have hj : j < tN m := hj
      unfold impl_table.goodB
      rw [show impl_table.ch m j = chk m j from rfl, show impl_table.ky m j = lastK m j from rfl, a1 j hj, a2 j hj]
      have hb := cb_length hm j
      have hs := szd_length (lastK_size hm hj)
      simp only [Option.any_some, Bool.and_eq_true, decide_eq_true_eq]
      omega
    · intro n hn
      unfold impl_table.goodP
      rw [a3 n hn]
      have := putVar_length_64 (n := n) (by omega)
      simp only [Option.any_some, decide_eq_true_eq]
      omega
  have hr := impl_table_run m hm k hl a1 a2 a3 (tN m) (Nat.le_refl _)
  show impl_table.f k m p = _
  unfold impl_table.f
  rw [if_pos hg, show impl_table.N m = tN m from rfl, hr]
  exact a4
def buildT (m : List S51) (p : Int) : List Int × Bool := if m.length ≤ 100 ∧ 1 ≤ m.length ∧ goodEntries m = true ∧ 1 ≤ p ∧ p ≤ 20 then (if (tab m p).length > 8000 then ([], false) else (tab m p, true)) else ([], false)
theorem okFrom_all (m : List S51) : ∀ (d i : Nat), m.length - i = d → i ≤ m.length → okFrom m d i = true → ∀ j, i ≤ j → j < m.length → eGood (rd_T51 m (j : Int)) = true := by
  intro d
  induction d with
  | zero => intro i hd hi _ j h1 h2; omega
  | succ d ih =>
    intro i hd hi h j h1 h2
    simp only [okFrom, Bool.and_eq_true] at h
    by_cases e : j = i
    · subst e
      unfold stepOk at h
      simp only [Bool.and_eq_true] at h
      exact h.1.1
    · exact ih (i + 1) (by omega) (by omega) h.2 j (by omega) h2
theorem good_all {m : List S51} (h : goodEntries m = true) : ∀ e ∈ m, eOk e := by
  unfold goodEntries at h
  simp only [Bool.and_eq_true] at h
  intro e he
  obtain ⟨j, hj, rfl⟩ := List.getElem_of_mem he
  have := okFrom_all m m.length 0 (by omega) (by omega) h.1 j (by omega) hj
  rw [rd51_lt hj] at this
  exact eOk_of_good this
theorem spec_BuildTable_ev (m : List S51) (hl : m.length ≤ 1048576) (p : Int) : Ev (fun k => spec_BuildTable.f k m p) (buildT m p) := by
  have bad : ∀ R, R = ([], false) → Ev (fun k => spec_BuildTable.j0 k m p true) R := by
    rintro R rfl
    refine Ev_succ ?_
    simp only [spec_BuildTable.j0, if_true]
    exact Ev.now _
  unfold spec_BuildTable.f buildT
  refine Ev.bind (Ev_some (l1In_eq _ _ _)) ?_
  by_cases h1 : 1 ≤ (m.length : Int) ∧ (m.length : Int) ≤ 100
  · rw [decide_eq_true h1]
    simp only [if_true]
    refine Ev.bind (spec_GoodEntries_ev m hl) ?_
    by_cases hg : goodEntries m = true
    · simp only [if_pos hg]
      refine Ev.bind (Ev_some (l1In_eq _ _ _)) ?_
      by_cases hp : 1 ≤ p ∧ p ≤ 20
      · rw [decide_eq_true hp, if_pos ⟨by omega, by omega, hg, hp.1, hp.2⟩]
        refine Ev_succ ?_
        simp only [spec_BuildTable.j0, Bool.not_true, Bool.false_eq_true, if_false]
        refine Ev.bind (spec_l7Build_ev m (good_all hg) (by omega) p hp) ?_
        by_cases h8 : ((tab m p).length : Int) > 8000
        · simp only [if_pos h8]
          rw [if_pos (by omega)]
          exact Ev.now _
        · simp only [if_neg h8]
          rw [if_neg (by omega)]
          exact Ev.now _
      · rw [decide_eq_false hp]
        exact bad _ (if_neg (fun h => hp ⟨h.2.2.2.1, h.2.2.2.2⟩))
    · simp only [if_neg hg]
      exact bad _ (if_neg (fun h => hg h.2.2.1))
  · rw [decide_eq_false h1]
    simp only [Bool.false_eq_true, if_false]
    exact bad _ (if_neg (fun h => h1 (by omega)))
theorem impl_BuildTable_ev (m : List S51) (hl : m.length ≤ 1048576) (p : Int) : Ev (fun k => impl_BuildTable.f k m p) (buildT m p) := by
  have bad : ∀ R, R = ([], false) → Ev (fun k => impl_BuildTable.j0 k m p true) R := by
    rintro R rfl
    refine Ev_succ ?_
    simp only [impl_BuildTable.j0, if_true]
    exact Ev.now _
  unfold impl_BuildTable.f buildT
  refine Ev.bind (Ev_some (within_eq _ _ _)) ?_
  by_cases h1 : 1 ≤ (m.length : Int) ∧ (m.length : Int) ≤ 100
  · rw [decide_eq_true h1]
    simp only [if_true]
    refine Ev.bind (impl_GoodEntries_ev m hl) ?_
    by_cases hg : goodEntries m = true
    · simp only [if_pos hg]
      refine Ev.bind (Ev_some (within_eq _ _ _)) ?_
      by_cases hp : 1 ≤ p ∧ p ≤ 20
      · rw [decide_eq_true hp, if_pos ⟨by omega, by omega, hg, hp.1, hp.2⟩]
        refine Ev_succ ?_
        simp only [impl_BuildTable.j0, Bool.not_true, Bool.false_eq_true, if_false]
        refine Ev.bind (impl_table_ev m (good_all hg) (by omega) (by omega) p hp) ?_
        by_cases h8 : ((tab m p).length : Int) > 8000
        · simp only [if_pos h8]
          rw [if_pos (by omega)]
          exact Ev.now _
        · simp only [if_neg h8]
          rw [if_neg (by omega)]
          exact Ev.now _
      · rw [decide_eq_false hp]
        exact bad _ (if_neg (fun h => hp ⟨h.2.2.2.1, h.2.2.2.2⟩))
    · simp only [if_neg hg]
      exact bad _ (if_neg (fun h => hg h.2.2.1))
  · rw [decide_eq_false h1]
    simp only [Bool.false_eq_true, if_false]
    exact bad _ (if_neg (fun h => h1 (by omega)))
theorem buildT_length (m : List S51) (p : Int) : (buildT m p).1.length ≤ 8000 := by
  unfold buildT
  split
  · split
    · simp
    · simp only; omega
  · simp
theorem markEntryS_l : ∀ (l : List S51) (a : Int), 0 ≤ a → a ≤ 1000000000000000 → l.length ≤ 1048576 → (∀ x ∈ l, x.f3.f4.length ≤ 1048576) → a + 1048584 * l.length ≤ 1000000000000000 → ∃ q, Ev (fun k => laws_markEntryS.l k l a) q ∧ 0 ≤ q.1 := by
  intro l
  induction l with
  | nil => intro a h0 _ _ _ _; exact ⟨_, Ev.now _, h0⟩
  | cons x t ih =>
    intro a h0 h1 hl hs hb
    simp only [List.length_cons] at hl hb
    obtain ⟨s, hs1⟩ := markText_ev a.toNat (by omega)
    rw [show ((a.toNat : Nat) : Int) = a by omega] at hs1
    have hx := hs x (List.mem_cons_self ..)
    obtain ⟨q, hq, hq0⟩ := ih (a + 8 + x.f3.f4.length) (by omega) (by omega) (by omega) (fun y hy => hs y (List.mem_cons_of_mem _ hy)) (by omega)
    refine ⟨(q.1, ⟨s, a + 1, a + 1 + 1, ⟨a + 1 + 1 + 1, a + 1 + 1 + 1 + 1, a + 1 + 1 + 1 + 1 + 1, a + 1 + 1 + 1 + 1 + 1 + 1, imarkedFrom (a + 1 + 1 + 1 + 1 + 1 + 1 + 1) x.f3.f4.length, decide ((a + 1 + 1 + 1 + 1 + 1 + 1 + 1 + (x.f3.f4.length : Int)).tmod 3 = 0)⟩⟩ :: q.2), ?_, hq0⟩
    · simp only [laws_markEntryS.l]
      refine Ev.bind hs1 ?_
      rw [w64 (n := a + 1) (by omega) (by omega), w64 (n := a + 1 + 1) (by omega) (by omega), w64 (n := a + 1 + 1 + 1) (by omega) (by omega), w64 (n := a + 1 + 1 + 1 + 1) (by omega) (by omega), w64 (n := a + 1 + 1 + 1 + 1 + 1) (by omega) (by omega), w64 (n := a + 1 + 1 + 1 + 1 + 1 + 1) (by omega) (by omega), w64 (n := a + 1 + 1 + 1 + 1 + 1 + 1 + 1) (by omega) (by omega)]
      refine Ev.bind (markIntS_ev x.f3.f4 (a + 1 + 1 + 1 + 1 + 1 + 1 + 1) (by omega) (by omega) (by omega)) ?_
      simp only
      rw [w64 (by omega) (by omega), show a + 1 + 1 + 1 + 1 + 1 + 1 + 1 + (x.f3.f4.length : Int) + 1 = a + 8 + x.f3.f4.length by omega]
      exact Ev.bind hq (Ev.now _)
theorem markEntryS_ev (l : List S51) (hl : l.length ≤ 1048576) (hs : ∀ x ∈ l, x.f3.f4.length ≤ 1048576) : ∃ q, Ev (fun k => laws_markEntryS.f k l 1) q ∧ 0 ≤ q.1 := by
  obtain ⟨q, hq, hq0⟩ := markEntryS_l l 1 (by omega) (by omega) hl hs (by omega)
  refine ⟨q, ?_, hq0⟩
  unfold laws_markEntryS.f
  simp only [if_pos (show l.length ≤ 1152921504606846976 by omega)]
  exact hq
theorem FnExactBuildTable : laws_FnExactBuildTable.Pure := by
  intro l p h0 h1
  have hb : ∀ x ∈ l, x.f0.size ≤ 9223372036854775807 ∧ x.f3.f4.length ≤ 9223372036854775807 := by
    intro x hx
    have g := h0.2 x hx
    have g1 := g.1
    have g2 := g.2.2.2.2.2.2.2.1.1
    unfold maxLen at g1 g2
    omega
  refine Ev.rounds ?_
  unfold laws_FnExactBuildTable.f
  obtain ⟨z, hz, hz2⟩ := szEntryS_ev l (by have := h0.1; unfold maxLen at this; omega) hb
  refine Ev.bind hz ?_
  by_cases hh : z < 0
  · simp only [if_pos hh]; exact Ev.now _
  obtain ⟨hl, hs⟩ := hz2.resolve_left hh
  have hml : (l.map toE).length ≤ 1048576 := by simpa using hl
  simp only [if_neg hh]
  have hr := buildT_length (l.map toE) p
  refine Ev.bind (toEntryS_ev l hl hs) ?_
  refine Ev.bind (spec_BuildTable_ev _ hml p) ?_
  refine Ev.bind (toEntryS_ev l hl hs) ?_
  refine Ev.bind (impl_BuildTable_ev _ hml p) ?_
  refine Ev.bind (eqByteS_same _ _ (by omega) rfl) ?_
  refine Ev.bind (toEntryS_ev l hl hs) ?_
  refine Ev.bind (eqEntryS_same _ hml (toE_hist l hs)) ?_
  obtain ⟨q, hq, hq0⟩ := markEntryS_ev (l.map toE) hml (toE_hist l hs)
  refine Ev.bind hq ?_
  refine Ev.bind (eqByteS_same _ _ (by omega) rfl) ?_
  refine Ev.bind (markByteS_ev _ 1 (by omega) (by omega) (by omega)) ?_
  refine Ev.bind (heldByteS_ev 1 _ (by omega) (by omega) (by omega)) ?_
  refine Ev.bind (toEntryS_ev l hl hs) ?_
  refine Ev.bind (impl_BuildTable_ev _ hml p) ?_
  refine Ev.bind (eqByteS_same _ _ (by omega) rfl) ?_
  refine Ev.bind (heldByteS_ev 1 _ (by omega) (by omega) (by omega)) ?_
  simp only
  rw [if_pos ⟨trivial, trivial, trivial, by omega, trivial, trivial, by omega, trivial, trivial, trivial, by omega, trivial⟩]
  exact Ev.now _
end Go.Proofs.Ytllmlnagihlokaa.Pure
