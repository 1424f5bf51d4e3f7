/- The law FnExactReadAgg answers true, for all bytes. -/
import Derived.Test.YtncnfkcnimfbmaaPFnExactReadAggx9
import Derived.Test.YtncnfkcnimfbmaaPFnExactReadAggx9
set_option linter.unusedVariables false
set_option linter.unusedSimpArgs false
namespace Go.Proofs.Ytncnfkcnimfbmaa.Pure
open Go.RowKit Go.Proofs.Ytncnfkcnimfbmaa.PFnExactReadAgg Go.Proofs.YtncnfkcnimfbmaaW Go.Proofs.YtncnfkcnimfbmaaW.PrintWords Go.Proofs.YtncnfkcnimfbmaaW.PrintLast Go.Proofs.YtncnfkcnimfbmaaW.PrintMore
/-! ### base: rounds, numbers -/
theorem Ev_succ {α : Type} {g : Nat → Option α} {r : α} (h : Ev (fun k => g (k + 1)) r) : Ev g r := Ev.step (fun _ => rfl) h
theorem Ev_some {α : Type} {o : Option α} {r : α} (h : o = some r) : Ev (fun _ => o) r := ⟨0, fun _ _ => h⟩
theorem Ev_cast {α : Type} {g : Nat → Option α} {r q : α} (h : Ev g r) (e : r = q) : Ev g q := e ▸ h
theorem w64 {n : Int} (h : -9223372036854775808 ≤ n) (h' : n ≤ 9223372036854775807) : wrap64 n = n := by unfold wrap64; omega
theorem wf_i64 {n : Int} (h : (Lit.int .i64 n).wf = true) : -9223372036854775808 ≤ n ∧ n ≤ 9223372036854775807 := by
  simp only [Lit.wf, IntKind.min, IntKind.max, IntKind.signed, IntKind.bits, Bool.and_eq_true, decide_eq_true_eq, if_true] at h
  omega
theorem wf_u64 {n : Int} (h : (Lit.int .u64 n).wf = true) : 0 ≤ n ∧ n ≤ 18446744073709551615 := by
  simp only [Lit.wf, IntKind.min, IntKind.max, IntKind.signed, IntKind.bits, Bool.and_eq_true, decide_eq_true_eq, if_true] at h
  simp at h
  omega
theorem wf_u8 {n : Int} (h : (Lit.int .u8 n).wf = true) : 0 ≤ n ∧ n ≤ 255 := by
  simp only [Lit.wf, IntKind.min, IntKind.max, IntKind.signed, IntKind.bits, Bool.and_eq_true, decide_eq_true_eq, if_true] at h
  simp at h
  omega
theorem wrap_u64 (n : Int) : IntKind.u64.wrap n = n % 18446744073709551616 := by simp [IntKind.wrap, IntKind.bits, IntKind.signed]
theorem wrap_u32 (n : Int) : IntKind.u32.wrap n = n % 4294967296 := by simp [IntKind.wrap, IntKind.bits, IntKind.signed]
/-- A list of bytes. -/
def Bytes (l : List Int) : Prop := ∀ x ∈ l, 0 ≤ x ∧ x ≤ 255
theorem Bytes.wf {l : List Int} (h : ∀ x ∈ l, (Lit.int .u8 x).wf = true) : Bytes l := fun x hx => wf_u8 (h x hx)
theorem Bytes.nil : Bytes [] := fun x hx => by cases hx
theorem Bytes.app {a b : List Int} (h : Bytes a) (k : Bytes b) : Bytes (a ++ b) := fun x hx => by
  rcases List.mem_append.1 hx with h' | h'
  · exact h x h'
  · exact k x h'
theorem Bytes.one {x : Int} (h : 0 ≤ x) (h' : x ≤ 255) : Bytes [x] := fun y hy => (List.mem_singleton.1 hy) ▸ ⟨h, h'⟩
theorem Bytes.sub {a b : List Int} (h : Bytes a) (k : ∀ x ∈ b, x ∈ a) : Bytes b := fun x hx => h x (k x hx)
theorem Bytes.take {a : List Int} (h : Bytes a) (n : Nat) : Bytes (a.take n) := h.sub fun _ hx => List.mem_of_mem_take hx
theorem Bytes.drop {a : List Int} (h : Bytes a) (n : Nat) : Bytes (a.drop n) := h.sub fun _ hx => List.mem_of_mem_drop hx
theorem rd_lt {l : List Int} {i : Nat} (h : i < l.length) : rd l (i : Int) = l[i] := by simp [rd, h]
theorem Bytes.rd {l : List Int} (h : Bytes l) (i : Int) : 0 ≤ rd l i ∧ rd l i ≤ 255 := by
  unfold PrintWords.rd
  by_cases hi : i.toNat < l.length
  · rw [List.getD_eq_getElem?_getD, List.getElem?_eq_getElem hi]; exact h _ (List.getElem_mem hi)
  · rw [List.getD_eq_getElem?_getD, List.getElem?_eq_none (by omega)]; simp
theorem drop_cons {α : Type} {l : List α} {i : Nat} (h : i < l.length) : l.drop i = l[i] :: l.drop (i + 1) := List.drop_eq_getElem_cons h
theorem within_eq (a b c : Int) : impl_within.f a b c = some (decide (b ≤ a ∧ a ≤ c)) := by
  unfold impl_within.f
  by_cases h : a ≥ b
  · rw [if_pos h]; simp; intro; omega
  · rw [if_neg h]; simp; intro; omega
theorem l1In_eq (a b c : Int) : spec_l1In.f a b c = some (decide (b ≤ a ∧ a ≤ c)) := by
  unfold spec_l1In.f
  by_cases h : a ≥ b
  · rw [if_pos h]; simp; intro; omega
  · rw [if_neg h]; simp; intro; omega
theorem l4Value_eq (v : Int) : spec_l4Value.f v = some (decide (-1000000000 ≤ v ∧ v ≤ 1000000000)) := by
  unfold spec_l4Value.f
  rw [l1In_eq]; rfl
theorem isValue_eq (v : Int) : impl_isValue.f v = some (decide (-1000000000 ≤ v ∧ v ≤ 1000000000)) := by
  unfold impl_isValue.f
  rw [within_eq]; rfl
/-! ### the laws' own words on bytes -/
theorem eqIntS_l0 (a b : List Int) (hl : a.length = b.length) (hb : a.length ≤ 4611686018427387904) :
    ∀ (d i : Nat), a.length - i = d → i ≤ a.length → Ev (fun k => laws_eqIntS.l0 k a b (i : Int)) (decide (a.drop i = b.drop i)) := by
  intro d
  induction d with
  | zero =>
    intro i hd hi
    refine Ev_succ ?_
    simp only [laws_eqIntS.l0]
    simp only [if_neg (show ¬ (i : Int) < (a.length : Int) by omega)]
    exact Ev_cast (Ev.now _) (by rw [List.drop_eq_nil_of_le (by omega), List.drop_eq_nil_of_le (by omega)]; simp)
  | succ d ih =>
    intro i hd hi
    refine Ev_succ ?_
    simp only [laws_eqIntS.l0]
    simp only [if_pos (show (i : Int) < (a.length : Int) by omega), if_pos (show 0 ≤ (i : Int) by omega), if_pos (show (i : Int) < (b.length : Int) by omega)]
    rw [rd_lt (by omega), rd_lt (by omega), w64 (by omega) (by omega), drop_cons (l := a) (by omega), drop_cons (l := b) (i := i) (by omega)]
    by_cases e : a[i]'(by omega) = b[i]'(by omega)
    · simp only [if_pos e]
      exact Ev_cast (ih (i + 1) (by omega) (by omega)) (decide_eq_decide.2 (by rw [List.cons.injEq]; exact ⟨fun h => ⟨e, h⟩, fun h => h.2⟩))
    · simp only [if_neg e]
      exact Ev_cast (Ev.now _) (Eq.symm (decide_eq_false (by rw [List.cons.injEq]; exact fun h => e h.1)))
theorem eqIntS_ev (a b : List Int) (ha : a.length ≤ 4611686018427387904) : Ev (fun k => laws_eqIntS.f k a b) (decide (a = b)) := by
  unfold laws_eqIntS.f
  by_cases h : a.length = b.length
  · simp only [if_pos (show (a.length : Int) = (b.length : Int) by omega)]
    exact eqIntS_l0 a b h ha a.length 0 (by omega) (by omega)
  · simp only [if_neg (show ¬ (a.length : Int) = (b.length : Int) by omega)]
    exact Ev_cast (Ev.now _) (by simp; intro e; exact h (by rw [e]))
theorem eqIntS_same (a b : List Int) (ha : a.length ≤ 4611686018427387904) (e : a = b) : Ev (fun k => laws_eqIntS.f k a b) true := Ev_cast (eqIntS_ev a b ha) (by simp [e])
/-! ### sums -/
def sum8 : List Int → Int
  | [] => 0
  | x :: t => x + sum8 t
def histOk (h : List Int) : Prop := ∀ x ∈ h, 0 ≤ x ∧ x ≤ 1000000000
instance (h : List Int) : Decidable (histOk h) := inferInstanceAs (Decidable (∀ x ∈ h, 0 ≤ x ∧ x ≤ 1000000000))
theorem histOk_cons (a : Int) (t : List Int) : histOk (a :: t) ↔ (0 ≤ a ∧ a ≤ 1000000000) ∧ histOk t := by
  unfold histOk; simp
def valueOk (v : Int) : Prop := -1000000000 ≤ v ∧ v ≤ 1000000000
instance (v : Int) : Decidable (valueOk v) := inferInstanceAs (Decidable (_ ∧ _))
/-- What is asked behind the histogram; z: all of it together. -/
def aggTail (c s mn mx : Int) (f : Bool) (z : Int) : Prop :=
  (c = 0 ∧ z = 0 ∧ mn = 0 ∧ mx = 0 ∧ s = 0 ∧ f = false) ∨
  (c ≠ 0 ∧ valueOk mn ∧ valueOk mx ∧ mn ≤ mx ∧ ((f = true ∧ s = 0) ∨ (f = false ∧ z = c ∧ -1000000000 * c ≤ s ∧ s ≤ 1000000000 * c)))
def goodAgg (c s mn mx : Int) (h : List Int) (f : Bool) : Prop := (0 ≤ c ∧ c ≤ 1000000000) ∧ h.length = 8 ∧ histOk h ∧ aggTail c s mn mx f (sum8 h)
instance (c s mn mx : Int) (f : Bool) (z : Int) : Decidable (aggTail c s mn mx f z) := inferInstanceAs (Decidable (_ ∨ _))
instance (c s mn mx : Int) (h : List Int) (f : Bool) : Decidable (goodAgg c s mn mx h f) := inferInstanceAs (Decidable (_ ∧ _))
theorem aggTail_pos {c s mn mx : Int} {f : Bool} {z : Int} (e0 : c ≠ 0) : aggTail c s mn mx f z ↔ (valueOk mn ∧ valueOk mx ∧ mn ≤ mx ∧ ((f = true ∧ s = 0) ∨ (f = false ∧ z = c ∧ -1000000000 * c ≤ s ∧ s ≤ 1000000000 * c))) := by
  constructor
  · intro h
    rcases h with h | h
    · exact absurd h.1 e0
    · exact h.2
  · intro h
    exact .inr ⟨e0, h⟩
theorem eqAgg_same (c s mn mx : Int) (h : List Int) (f : Bool) (hl : h.length ≤ 1048576) : Ev (fun k => laws_eqAgg.f k c s mn mx h f c s mn mx h f) true := by
  unfold laws_eqAgg.f
  simp only [if_true, bne_self_eq_false, Bool.false_eq_true, if_false]
  exact Ev.bind (eqIntS_same h h (by omega) rfl) (Ev_cast (by simp only [if_true]; exact Ev.now _) rfl)
theorem spec_GoodAgg_l0 (c s mn mx : Int) (h : List Int) (f : Bool) (h8 : h.length = 8) (R : Int → Bool) (fin : ∀ z : Int, 0 ≤ z → z ≤ 8000000000 → Ev (fun k => spec_GoodAgg.l0 k z h (h.length : Int) (8 : Int) c s mn mx h f) (R z)) :
    ∀ (d i : Nat) (z : Int), 8 - i = d → i ≤ 8 → 0 ≤ z → z ≤ 1000000000 * i → Ev (fun k => spec_GoodAgg.l0 k z h (h.length : Int) (i : Int) c s mn mx h f) (if histOk (h.drop i) then R (z + sum8 (h.drop i)) else false) := by
  intro d
  induction d with
  | zero =>
    intro i z hd hi h0 h1
    obtain rfl : i = 8 := by omega
    rw [List.drop_eq_nil_of_le (by omega), if_pos (show histOk [] from fun x hx => by cases hx)]
    simp only [sum8, Int.add_zero]
    exact fin z h0 (by omega)
  | succ d ih =>
    intro i z hd hi h0 h1
    refine Ev_succ ?_
    simp only [spec_GoodAgg.l0]
    simp only [if_pos (show (i : Int) < (h.length : Int) by omega), if_pos (show 0 ≤ (i : Int) by omega)]
    rw [rd_lt (by omega), drop_cons (l := h) (i := i) (by omega)]
    refine Ev.bind (Ev_some (l1In_eq _ _ _)) ?_
    by_cases hx : 0 ≤ h[i]'(by omega) ∧ h[i]'(by omega) ≤ 1000000000
    · rw [decide_eq_true hx]
      simp only [if_true]
      rw [w64 (n := (i : Int) + 1) (by omega) (by omega), w64 (by omega) (by omega)]
      refine Ev_cast (ih (i + 1) _ (by omega) (by omega) (by omega) (by omega)) ?_
      by_cases hr : histOk (h.drop (i + 1))
      · rw [if_pos hr, if_pos ((histOk_cons _ _).2 ⟨hx, hr⟩)]
        simp only [sum8]
        rw [Int.add_assoc]
      · rw [if_neg hr, if_neg (fun hh => hr ((histOk_cons _ _).1 hh).2)]
    · rw [decide_eq_false hx, if_neg (fun hh => hx ((histOk_cons _ _).1 hh).1)]
      simp only [Bool.false_eq_true, if_false]
      exact Ev.now _
theorem spec_GoodAgg_fin (c s mn mx : Int) (h : List Int) (f : Bool) (h8 : h.length = 8) (hc : 0 ≤ c ∧ c ≤ 1000000000) (z : Int) (h0 : 0 ≤ z) (h1 : z ≤ 8000000000) :
    Ev (fun k => spec_GoodAgg.l0 k z h (h.length : Int) (8 : Int) c s mn mx h f) (decide (aggTail c s mn mx f z)) := by
  refine Ev_succ ?_
  simp only [spec_GoodAgg.l0]
  simp only [if_neg (show ¬ (8 : Int) < (h.length : Int) by omega)]
  by_cases e0 : c = 0
  · simp only [if_pos e0]
    by_cases e1 : z = 0
    · simp only [if_pos e1]
      by_cases e2 : mn = 0
      · simp only [if_pos e2]
        by_cases e3 : mx = 0
        · simp only [if_pos e3]
          by_cases e4 : s = 0
          · simp only [if_pos e4]
            refine Ev_cast (Ev.now _) ?_
            cases f <;> simp [aggTail, e0, e1, e2, e3, e4]
          · simp only [if_neg e4]
            exact Ev_cast (Ev.now _) (by simp [aggTail, e0, e4])
        · simp only [if_neg e3]
          exact Ev_cast (Ev.now _) (by simp [aggTail, e0, e3])
      · simp only [if_neg e2]
        exact Ev_cast (Ev.now _) (by simp [aggTail, e0, e2])
    · simp only [if_neg e1]
      exact Ev_cast (Ev.now _) (by simp [aggTail, e0, e1])
  · simp only [if_neg e0]
    have bad : ∀ P : Prop, ¬ P → (aggTail c s mn mx f z → P) → Ev (fun k => spec_GoodAgg.j2 k z true c s mn mx h f) (decide (aggTail c s mn mx f z)) := by
      intro P hP hh
      refine Ev_succ ?_
      simp only [spec_GoodAgg.j2, if_true]
      exact Ev_cast (Ev.now _) (decide_eq_false (fun ht => hP (hh ht))).symm
    refine Ev.bind (Ev_some (l4Value_eq _)) ?_
    by_cases v1 : -1000000000 ≤ mn ∧ mn ≤ 1000000000
    · rw [decide_eq_true v1]
      simp only [if_true]
      refine Ev.bind (Ev_some (l4Value_eq _)) ?_
      by_cases v2 : -1000000000 ≤ mx ∧ mx ≤ 1000000000
      · rw [decide_eq_true v2]
        simp only [if_true]
        by_cases v3 : mn > mx
        · rw [decide_eq_true v3]
          exact bad (mn ≤ mx) (by omega) (fun hh => ((aggTail_pos e0).1 hh).2.2.1)
        · rw [decide_eq_false v3]
          refine Ev_succ ?_
          simp only [spec_GoodAgg.j2, Bool.false_eq_true, if_false]
          cases f with
          | true =>
            simp only [if_true]
            refine Ev_cast (Ev.now _) ?_
            rw [Bool.eq_iff_iff]
            simp only [beq_iff_eq, decide_eq_true_eq]
            rw [aggTail_pos e0]
            constructor
            · intro hs
              exact ⟨v1, v2, by omega, .inl ⟨rfl, hs⟩⟩
            · intro hh
              rcases hh.2.2.2 with hz | hz
              · exact hz.2
              · cases hz.1
          | false =>
            simp only [Bool.false_eq_true, if_false]
            by_cases e5 : z = c
            · simp only [if_pos e5]
              refine Ev.bind (Ev_some (l1In_eq _ _ _)) ?_
              rw [w64 (by omega) (by omega), w64 (by omega) (by omega)]
              refine Ev_cast (Ev.now _) ?_
              rw [decide_eq_decide, aggTail_pos e0]
              constructor
              · intro hs
                exact ⟨v1, v2, by omega, .inr ⟨rfl, e5, hs.1, hs.2⟩⟩
              · intro hh
                rcases hh.2.2.2 with hz | hz
                · cases hz.1
                · exact hz.2.2
            · simp only [if_neg e5]
              refine Ev_cast (Ev.now _) (decide_eq_false ?_).symm
              intro hh
              rcases ((aggTail_pos e0).1 hh).2.2.2 with hz | hz
              · cases hz.1
              · exact e5 hz.2.1
      · rw [decide_eq_false v2]
        simp only [Bool.false_eq_true, if_false]
        exact bad (valueOk mx) v2 (fun hh => ((aggTail_pos e0).1 hh).2.1)
    · rw [decide_eq_false v1]
      simp only [Bool.false_eq_true, if_false]
      exact bad (valueOk mn) v1 (fun hh => ((aggTail_pos e0).1 hh).1)
theorem spec_GoodAgg_ev (c s mn mx : Int) (h : List Int) (f : Bool) : Ev (fun k => spec_GoodAgg.f k c s mn mx h f) (decide (goodAgg c s mn mx h f)) := by
  unfold spec_GoodAgg.f
  have bad : ¬ goodAgg c s mn mx h f → Ev (fun k => spec_GoodAgg.j0 k true c s mn mx h f) (decide (goodAgg c s mn mx h f)) := by
    intro hn
    refine Ev_succ ?_
    simp only [spec_GoodAgg.j0, if_true]
    exact Ev_cast (Ev.now _) (decide_eq_false hn).symm
  refine Ev.bind (Ev_some (l1In_eq _ _ _)) ?_
  by_cases hc : 0 ≤ c ∧ c ≤ 1000000000
  · rw [decide_eq_true hc]
    simp only [if_true]
    by_cases h8 : h.length = 8
    · rw [show (((h.length : Int)) != 8) = false by simp [h8]]
      refine Ev_succ ?_
      simp only [spec_GoodAgg.j0, Bool.false_eq_true, if_false]
      refine Ev_cast (spec_GoodAgg_l0 c s mn mx h f h8 _ (fun z h0 h1 => spec_GoodAgg_fin c s mn mx h f h8 hc z h0 h1) 8 0 0 (by omega) (by omega) (by omega) (by omega)) ?_
      rw [List.drop_zero, Int.zero_add]
      by_cases hh : histOk h
      · rw [if_pos hh, decide_eq_decide]
        exact ⟨fun ht => ⟨hc, h8, hh, ht⟩, fun hg => hg.2.2.2⟩
      · rw [if_neg hh]
        exact (decide_eq_false (fun hg => hh hg.2.2.1)).symm
    · rw [show (((h.length : Int)) != 8) = true by simp; omega]
      exact bad (fun hg => h8 hg.2.1)
  · rw [decide_eq_false hc]
    simp only [Bool.false_eq_true, if_false]
    exact bad (fun hg => hc hg.1)
theorem impl_GoodAgg_l0 (c s mn mx : Int) (h : List Int) (f : Bool) (h8 : h.length = 8) (R : Int → Bool) (fin : ∀ z : Int, 0 ≤ z → z ≤ 8000000000 → Ev (fun k => impl_GoodAgg.l0 k z h (h.length : Int) (8 : Int) c s mn mx h f) (R z)) :
    ∀ (d i : Nat) (z : Int), 8 - i = d → i ≤ 8 → 0 ≤ z → z ≤ 1000000000 * i → Ev (fun k => impl_GoodAgg.l0 k z h (h.length : Int) (i : Int) c s mn mx h f) (if histOk (h.drop i) then R (z + sum8 (h.drop i)) else false) := by
  intro d
  induction d with
  | zero =>
    intro i z hd hi h0 h1
    obtain rfl : i = 8 := by omega
    rw [List.drop_eq_nil_of_le (by omega), if_pos (show histOk [] from fun x hx => by cases hx)]
    simp only [sum8, Int.add_zero]
    exact fin z h0 (by omega)
  | succ d ih =>
    intro i z hd hi h0 h1
    refine Ev_succ ?_
    simp only [impl_GoodAgg.l0]
    simp only [if_pos (show (i : Int) < (h.length : Int) by omega), if_pos (show 0 ≤ (i : Int) by omega)]
    rw [rd_lt (by omega), drop_cons (l := h) (i := i) (by omega)]
    refine Ev.bind (Ev_some (within_eq _ _ _)) ?_
    by_cases hx : 0 ≤ h[i]'(by omega) ∧ h[i]'(by omega) ≤ 1000000000
    · rw [decide_eq_true hx]
      simp only [if_true]
      rw [w64 (n := (i : Int) + 1) (by omega) (by omega), w64 (by omega) (by omega)]
      refine Ev_cast (ih (i + 1) _ (by omega) (by omega) (by omega) (by omega)) ?_
      by_cases hr : histOk (h.drop (i + 1))
      · rw [if_pos hr, if_pos ((histOk_cons _ _).2 ⟨hx, hr⟩)]
        simp only [sum8]
        rw [Int.add_assoc]
      · rw [if_neg hr, if_neg (fun hh => hr ((histOk_cons _ _).1 hh).2)]
    · rw [decide_eq_false hx, if_neg (fun hh => hx ((histOk_cons _ _).1 hh).1)]
      simp only [Bool.false_eq_true, if_false]
      exact Ev.now _
theorem impl_GoodAgg_j3 (c s mn mx : Int) (h : List Int) (f : Bool) (z : Int) (b : Bool) (hb : b = true ↔ ¬ ((f = true ∧ s = 0) ∨ (f = false ∧ z = c ∧ -1000000000 * c ≤ s ∧ s ≤ 1000000000 * c))) :
    Ev (fun k => impl_GoodAgg.j3 k z b c s mn mx h f) (decide (aggTail c s mn mx f z)) := by
  refine Ev_succ ?_
  simp only [impl_GoodAgg.j3]
  cases b with
  | true =>
    simp only [if_true]
    refine Ev_cast (Ev.now _) (decide_eq_false ?_).symm
    have hn := hb.1 rfl
    rintro (hh | hh)
    · exact hn (.inr ⟨hh.2.2.2.2.2, by omega, by omega, by omega⟩)
    · exact hn hh.2.2.2.2
  | false =>
    have hy : (f = true ∧ s = 0) ∨ (f = false ∧ z = c ∧ -1000000000 * c ≤ s ∧ s ≤ 1000000000 * c) := by
      by_cases hy : (f = true ∧ s = 0) ∨ (f = false ∧ z = c ∧ -1000000000 * c ≤ s ∧ s ≤ 1000000000 * c)
      · exact hy
      · exact absurd (hb.2 hy) (by simp)
    simp only [Bool.false_eq_true, if_false]
    by_cases e0 : c = 0
    · simp only [if_pos e0]
      by_cases e2 : mn = 0
      · simp only [if_pos e2]
        by_cases e3 : mx = 0
        · simp only [if_pos e3]
          by_cases e1 : z = 0
          · simp only [if_pos e1]
            refine Ev_cast (Ev.now _) ?_
            rw [Bool.eq_iff_iff, decide_eq_true_eq, Bool.not_eq_true']
            refine ⟨fun hf => .inl ⟨e0, e1, e2, e3, ?_, hf⟩, ?_⟩
            · rcases hy with hy | hy
              · rw [hf] at hy; cases hy.1
              · omega
            · rintro (hh | hh)
              · exact hh.2.2.2.2.2
              · exact absurd e0 hh.1
          · simp only [if_neg e1]
            exact Ev_cast (Ev.now _) (by simp [aggTail, e0, e1])
        · simp only [if_neg e3]
          exact Ev_cast (Ev.now _) (by simp [aggTail, e0, e3])
      · simp only [if_neg e2]
        exact Ev_cast (Ev.now _) (by simp [aggTail, e0, e2])
    · simp only [if_neg e0]
      refine Ev.bind (Ev_some (isValue_eq _)) ?_
      by_cases v1 : -1000000000 ≤ mn ∧ mn ≤ 1000000000
      · rw [decide_eq_true v1]
        simp only [if_true]
        refine Ev.bind (Ev_some (isValue_eq _)) ?_
        by_cases v2 : -1000000000 ≤ mx ∧ mx ≤ 1000000000
        · rw [decide_eq_true v2]
          simp only [if_true]
          refine Ev_cast (Ev.now _) ?_
          rw [decide_eq_decide]
          rw [aggTail_pos e0]
          exact ⟨fun hm => ⟨v1, v2, hm, hy⟩, fun hh => hh.2.2.1⟩
        · rw [decide_eq_false v2]
          simp only [Bool.false_eq_true, if_false]
          exact Ev_cast (Ev.now _) (decide_eq_false (fun hh => v2 ((aggTail_pos e0).1 hh).2.1)).symm
      · rw [decide_eq_false v1]
        simp only [Bool.false_eq_true, if_false]
        exact Ev_cast (Ev.now _) (decide_eq_false (fun hh => v1 ((aggTail_pos e0).1 hh).1)).symm
theorem impl_GoodAgg_j2 (c s mn mx : Int) (h : List Int) (f : Bool) (hc : 0 ≤ c ∧ c ≤ 1000000000) (z : Int) (b : Bool) (hb : b = true ↔ (f = true ∧ s ≠ 0)) :
    Ev (fun k => impl_GoodAgg.j2 k z b c s mn mx h f) (decide (aggTail c s mn mx f z)) := by
  refine Ev_succ ?_
  simp only [impl_GoodAgg.j2]
  cases b with
  | true =>
    simp only [if_true]
    obtain ⟨hf, hs⟩ := hb.1 rfl
    refine Ev_cast (Ev.now _) (decide_eq_false ?_).symm
    rintro (hh | hh)
    · exact hs hh.2.2.2.2.1
    · rcases hh.2.2.2.2 with hz | hz
      · exact hs hz.2
      · rw [hf] at hz; cases hz.1
  | false =>
    have hy : ¬ (f = true ∧ s ≠ 0) := fun hh => by have := hb.2 hh; cases this
    simp only [Bool.false_eq_true, if_false]
    cases f with
    | true =>
      simp only [if_true]
      refine impl_GoodAgg_j3 c s mn mx h true z false ⟨fun hh => (by cases hh), fun hh => ?_⟩
      exact absurd (Or.inl ⟨rfl, Decidable.byContradiction fun hs => hy ⟨rfl, hs⟩⟩) hh
    | false =>
      simp only [Bool.false_eq_true, if_false]
      by_cases e5 : z = c
      · simp only [if_pos e5]
        refine Ev.bind (Ev_some (within_eq _ _ _)) ?_
        rw [w64 (by omega) (by omega), w64 (by omega) (by omega)]
        refine impl_GoodAgg_j3 c s mn mx h false z _ ?_
        rw [Bool.not_eq_true', decide_eq_false_iff_not]
        simp [e5]
      · simp only [if_neg e5]
        refine impl_GoodAgg_j3 c s mn mx h false z true ?_
        simp [e5]
theorem impl_GoodAgg_fin (c s mn mx : Int) (h : List Int) (f : Bool) (h8 : h.length = 8) (hc : 0 ≤ c ∧ c ≤ 1000000000) (z : Int) (h0 : 0 ≤ z) (h1 : z ≤ 8000000000) :
    Ev (fun k => impl_GoodAgg.l0 k z h (h.length : Int) (8 : Int) c s mn mx h f) (decide (aggTail c s mn mx f z)) := by
  refine Ev_succ ?_
  simp only [impl_GoodAgg.l0]
  simp only [if_neg (show ¬ (8 : Int) < (h.length : Int) by omega)]
  cases f with
  | true =>
    simp only [if_true]
    exact impl_GoodAgg_j2 c s mn mx h true hc z _ (by simp)
  | false =>
    simp only [Bool.false_eq_true, if_false]
    exact impl_GoodAgg_j2 c s mn mx h false hc z _ (by simp)
theorem impl_GoodAgg_ev (c s mn mx : Int) (h : List Int) (f : Bool) : Ev (fun k => impl_GoodAgg.f k c s mn mx h f) (decide (goodAgg c s mn mx h f)) := by
  unfold impl_GoodAgg.f
  have bad : ¬ goodAgg c s mn mx h f → Ev (fun k => impl_GoodAgg.j0 k true c s mn mx h f) (decide (goodAgg c s mn mx h f)) := by
    intro hn
    refine Ev_succ ?_
    simp only [impl_GoodAgg.j0, if_true]
    exact Ev_cast (Ev.now _) (decide_eq_false hn).symm
  refine Ev.bind (Ev_some (within_eq _ _ _)) ?_
  by_cases hc : 0 ≤ c ∧ c ≤ 1000000000
  · rw [decide_eq_true hc]
    simp only [if_true]
    by_cases h8 : h.length = 8
    · rw [show (((h.length : Int)) != 8) = false by simp [h8]]
      refine Ev_succ ?_
      simp only [impl_GoodAgg.j0, Bool.false_eq_true, if_false]
      refine Ev_cast (impl_GoodAgg_l0 c s mn mx h f h8 _ (fun z h0 h1 => impl_GoodAgg_fin c s mn mx h f h8 hc z h0 h1) 8 0 0 (by omega) (by omega) (by omega) (by omega)) ?_
      rw [List.drop_zero, Int.zero_add]
      by_cases hh : histOk h
      · rw [if_pos hh, decide_eq_decide]
        exact ⟨fun ht => ⟨hc, h8, hh, ht⟩, fun hg => hg.2.2.2⟩
      · rw [if_neg hh]
        exact (decide_eq_false (fun hg => hh hg.2.2.1)).symm
    · rw [show (((h.length : Int)) != 8) = true by simp; omega]
      exact bad (fun hg => h8 hg.2.1)
  · rw [decide_eq_false hc]
    simp only [Bool.false_eq_true, if_false]
    exact bad (fun hg => hc hg.1)
/-- What a list of whole numbers reads once it was marked from m on. -/
def imarkedFrom (m : Int) : Nat → List Int
  | 0 => []
  | n + 1 => m :: imarkedFrom (m + 1) n
theorem imarkedFrom_length (n : Nat) : ∀ m, (imarkedFrom m n).length = n := by
  induction n with
  | zero => intro m; rfl
  | succ n ih => intro m; simp [imarkedFrom, ih]
theorem markIntS_l0 (m : Int) : ∀ (d i : Nat) (l : List Int), l.length - i = d → i ≤ l.length → l.length ≤ 1152921504606846976 → 0 ≤ m → m ≤ 1152921504606846976 + i →
    Ev (fun k => laws_markIntS.l0 k l m (i : Int)) (m + d, l.take i ++ imarkedFrom m d) := by
  intro d
  induction d generalizing m with
  | zero =>
    intro i l hd hi hl h0 hm
    refine Ev_succ ?_
    simp only [laws_markIntS.l0]
    simp only [if_neg (show ¬ (i : Int) < (l.length : Int) by omega)]
    exact Ev_cast (Ev.now _) (by rw [List.take_of_length_le (by omega)]; simp [imarkedFrom])
  | succ d ih =>
    intro i l hd hi hl h0 hm
    refine Ev_succ ?_
    simp only [laws_markIntS.l0]
    simp only [if_pos (show (i : Int) < (l.length : Int) by omega), if_pos (show 0 ≤ (i : Int) by omega)]
    rw [w64 (n := m + 1) (by omega) (by omega), w64 (by omega) (by omega)]
    refine Ev_cast (ih (m + 1) (i + 1) (l.set i (m)) (by simp; omega) (by simp; omega) (by simpa using hl) (by omega) (by omega)) ?_
    refine Prod.ext (by simp; omega) ?_
    show (l.set i (m)).take (i + 1) ++ imarkedFrom (m + 1) d = l.take i ++ imarkedFrom m (d + 1)
    have : (l.set i (m)).take (i + 1) = l.take i ++ [m] := by
      apply List.ext_getElem?
      intro j
      rw [List.getElem?_take, List.getElem?_append, List.getElem?_set]
      have : (l.take i).length = i := by simp; omega
      rw [this]
      by_cases h1 : j < i
      · rw [if_pos (by omega), if_neg (by omega), if_pos h1, List.getElem?_take, if_pos h1]
      · by_cases h2 : j = i
        · subst h2; simp; omega
        · rw [if_neg (by omega), if_neg h1]; simp; omega
    rw [this]; simp [imarkedFrom]
theorem markIntS_ev (l : List Int) (m : Int) (hl : l.length ≤ 1152921504606846976) (h0 : 0 ≤ m) (hm : m ≤ 1152921504606846976) : Ev (fun k => laws_markIntS.f k l m) (m + l.length, imarkedFrom m l.length) := by
  unfold laws_markIntS.f
  exact Ev_cast (markIntS_l0 m l.length 0 l (by omega) (by omega) hl h0 (by omega)) (by simp)
theorem heldIntS_l0 : ∀ (n : Nat) (m : Int) (i : Nat) (p : List Int), p.length = i → i + n ≤ 1152921504606846976 → 0 ≤ m → m ≤ 1152921504606846976 + i →
    Ev (fun k => laws_heldIntS.l0 k (p ++ imarkedFrom m n) m (i : Int)) (m + n) := by
  intro n
  induction n with
  | zero =>
    intro m i p hp hl h0 hm
    refine Ev_succ ?_
    simp only [laws_heldIntS.l0]
    simp only [imarkedFrom, List.append_nil, if_neg (show ¬ (i : Int) < (p.length : Int) by omega)]
    exact Ev_cast (Ev.now _) (by simp)
  | succ n ih =>
    intro m i p hp hl h0 hm
    refine Ev_succ ?_
    simp only [laws_heldIntS.l0]
    have hlen : (p ++ imarkedFrom m (n + 1)).length = i + n + 1 := by rw [List.length_append, imarkedFrom_length]; omega
    have hr : rd (p ++ imarkedFrom m (n + 1)) (i : Int) = m := by
      rw [rd_lt (by omega)]; simp [imarkedFrom, hp]
    simp only [if_pos (show (i : Int) < ((p ++ imarkedFrom m (n + 1)).length : Int) by omega), if_pos (show 0 ≤ (i : Int) by omega), hr, if_true]
    rw [w64 (n := m + 1) (by omega) (by omega), w64 (by omega) (by omega)]
    have e : p ++ imarkedFrom m (n + 1) = (p ++ [m]) ++ imarkedFrom (m + 1) n := by simp [imarkedFrom]
    rw [e]
    exact Ev_cast (ih (m + 1) (i + 1) (p ++ [m]) (by simp [hp]) (by omega) (by omega) (by omega)) (by omega)
theorem heldIntS_ev (m : Int) (n : Nat) (hl : n ≤ 1152921504606846976) (h0 : 0 ≤ m) (hm : m ≤ 1152921504606846976) : Ev (fun k => laws_heldIntS.f k (imarkedFrom m n) m) (m + n) := by
  unfold laws_heldIntS.f
  exact heldIntS_l0 n m 0 [] rfl (by omega) h0 (by omega)
theorem heldAgg_ev (c s mn mx : Int) (n : Nat) (f : Bool) (hl : n ≤ 1048576) : Ev (fun k => laws_heldAgg.f k c s mn mx (imarkedFrom 1 n) f 1) (1 + (n : Int)) := by
  unfold laws_heldAgg.f
  refine Ev.bind (heldIntS_ev 1 n (by omega) (by omega) (by omega)) ?_
  simp only [if_neg (show ¬ (1 + (n : Int) < 0) by omega)]
  exact Ev.now _
/-! ### the laws' own words on bytes -/
theorem eqByteS_l0 (a b : List Int) (hl : a.length = b.length) (hb : a.length ≤ 4611686018427387904) :
    ∀ (d i : Nat), a.length - i = d → i ≤ a.length → Ev (fun k => laws_eqByteS.l0 k a b (i : Int)) (decide (a.drop i = b.drop i)) := by
  intro d
  induction d with
  | zero =>
    intro i hd hi
    refine Ev_succ ?_
    simp only [laws_eqByteS.l0]
    simp only [if_neg (show ¬ (i : Int) < (a.length : Int) by omega)]
    exact Ev_cast (Ev.now _) (by rw [List.drop_eq_nil_of_le (by omega), List.drop_eq_nil_of_le (by omega)]; simp)
  | succ d ih =>
    intro i hd hi
    refine Ev_succ ?_
    simp only [laws_eqByteS.l0]
    simp only [if_pos (show (i : Int) < (a.length : Int) by omega), if_pos (show 0 ≤ (i : Int) by omega), if_pos (show (i : Int) < (b.length : Int) by omega)]
    rw [rd_lt (by omega), rd_lt (by omega), w64 (by omega) (by omega), drop_cons (l := a) (by omega), drop_cons (l := b) (i := i) (by omega)]
    by_cases e : a[i]'(by omega) = b[i]'(by omega)
    · simp only [if_pos e]
      exact Ev_cast (ih (i + 1) (by omega) (by omega)) (decide_eq_decide.2 (by rw [List.cons.injEq]; exact ⟨fun h => ⟨e, h⟩, fun h => h.2⟩))
    · simp only [if_neg e]
      exact Ev_cast (Ev.now _) (Eq.symm (decide_eq_false (by rw [List.cons.injEq]; exact fun h => e h.1)))
theorem eqByteS_ev (a b : List Int) (ha : a.length ≤ 4611686018427387904) : Ev (fun k => laws_eqByteS.f k a b) (decide (a = b)) := by
  unfold laws_eqByteS.f
  by_cases h : a.length = b.length
  · simp only [if_pos (show (a.length : Int) = (b.length : Int) by omega)]
    exact eqByteS_l0 a b h ha a.length 0 (by omega) (by omega)
  · simp only [if_neg (show ¬ (a.length : Int) = (b.length : Int) by omega)]
    exact Ev_cast (Ev.now _) (by simp; intro e; exact h (by rw [e]))
theorem eqByteS_same (a b : List Int) (ha : a.length ≤ 4611686018427387904) (e : a = b) : Ev (fun k => laws_eqByteS.f k a b) true := Ev_cast (eqByteS_ev a b ha) (by simp [e])
theorem toByteS_l0 (l : List Int) : ∀ (d i : Nat) (o : List Int), l.length - i = d → i ≤ l.length → l.length ≤ 1152921504606846976 → o.length = l.length → o.take i = l.take i →
    Ev (fun k => laws_toByteS.l0 k l o (i : Int)) l := by
  intro d
  induction d with
  | zero =>
    intro i o hd hi hl ho ht
    refine Ev_succ ?_
    simp only [laws_toByteS.l0]
    simp only [if_neg (show ¬ (i : Int) < (l.length : Int) by omega)]
    exact Ev_cast (Ev.now _) (by rw [List.take_of_length_le (by omega), List.take_of_length_le (by omega)] at ht; exact ht)
  | succ d ih =>
    intro i o hd hi hl ho ht
    refine Ev_succ ?_
    simp only [laws_toByteS.l0]
    simp only [if_pos (show (i : Int) < (l.length : Int) by omega), if_pos (show 0 ≤ (i : Int) by omega), if_pos (show (i : Int) < (o.length : Int) by omega)]
    rw [rd_lt (by omega), w64 (by omega) (by omega)]
    refine ih (i + 1) _ (by omega) (by omega) hl (by simpa using ho) ?_
    apply List.ext_getElem?
    intro j
    rw [List.getElem?_take, List.getElem?_take]
    by_cases h1 : j < i
    · have := congrArg (fun x => x[j]?) ht
      simp only [List.getElem?_take, if_pos h1] at this
      rw [if_pos (by omega), if_pos (by omega), List.getElem?_set]
      simp only [Int.toNat_natCast]
      rw [if_neg (by omega), this]
    · by_cases h2 : j = i
      · subst h2
        rw [if_pos (by omega), if_pos (by omega)]
        simp [show j < l.length by omega, show j < o.length by omega]
      · rw [if_neg (by omega), if_neg (by omega)]
theorem toByteS_ev (l : List Int) (hl : l.length ≤ 281474976710656) : Ev (fun k => laws_toByteS.f k l) l := by
  unfold laws_toByteS.f
  simp only [if_pos (show 0 ≤ (l.length : Int) by omega), Int.toNat_natCast, if_pos hl]
  exact toByteS_l0 l l.length 0 _ (by omega) (by omega) (by omega) (by simp) (by simp)
/-- What a list reads once it was marked from m on. -/
def markedFrom (m : Int) : Nat → List Int
  | 0 => []
  | n + 1 => (m % 256) :: markedFrom (m + 1) n
theorem markedFrom_length (n : Nat) : ∀ m, (markedFrom m n).length = n := by
  induction n with
  | zero => intro m; rfl
  | succ n ih => intro m; simp [markedFrom, ih]
theorem markByteS_l0 (m : Int) : ∀ (d i : Nat) (l : List Int), l.length - i = d → i ≤ l.length → l.length ≤ 1152921504606846976 → 0 ≤ m → m ≤ 1152921504606846976 + i →
    Ev (fun k => laws_markByteS.l0 k l m (i : Int)) (m + d, l.take i ++ markedFrom m d) := by
  intro d
  induction d generalizing m with
  | zero =>
    intro i l hd hi hl h0 hm
    refine Ev_succ ?_
    simp only [laws_markByteS.l0]
    simp only [if_neg (show ¬ (i : Int) < (l.length : Int) by omega)]
    exact Ev_cast (Ev.now _) (by rw [List.take_of_length_le (by omega)]; simp [markedFrom])
  | succ d ih =>
    intro i l hd hi hl h0 hm
    refine Ev_succ ?_
    simp only [laws_markByteS.l0]
    simp only [if_pos (show (i : Int) < (l.length : Int) by omega), if_pos (show 0 ≤ (i : Int) by omega)]
    rw [w64 (n := m + 1) (by omega) (by omega), w64 (by omega) (by omega)]
    refine Ev_cast (ih (m + 1) (i + 1) (l.set i (m % 256)) (by simp; omega) (by simp; omega) (by simpa using hl) (by omega) (by omega)) ?_
    refine Prod.ext (by simp; omega) ?_
    show (l.set i (m % 256)).take (i + 1) ++ markedFrom (m + 1) d = l.take i ++ markedFrom m (d + 1)
    have : (l.set i (m % 256)).take (i + 1) = l.take i ++ [m % 256] := by
      apply List.ext_getElem?
      intro j
      rw [List.getElem?_take, List.getElem?_append, List.getElem?_set]
      have : (l.take i).length = i := by simp; omega
      rw [this]
      by_cases h1 : j < i
      · rw [if_pos (by omega), if_neg (by omega), if_pos h1, List.getElem?_take, if_pos h1]
      · by_cases h2 : j = i
        · subst h2; simp; omega
        · rw [if_neg (by omega), if_neg h1]; simp; omega
    rw [this]; simp [markedFrom]
theorem markByteS_ev (l : List Int) (m : Int) (hl : l.length ≤ 1152921504606846976) (h0 : 0 ≤ m) (hm : m ≤ 1152921504606846976) : Ev (fun k => laws_markByteS.f k l m) (m + l.length, markedFrom m l.length) := by
  unfold laws_markByteS.f
  exact Ev_cast (markByteS_l0 m l.length 0 l (by omega) (by omega) hl h0 (by omega)) (by simp)
/-! ### PutVar -/
def putVar (n : Nat) : List Int := if 127 < n then ((n % 128 + 128 : Nat) : Int) :: putVar (n / 128) else [(n : Int)]
termination_by n
decreasing_by omega
theorem putVar_small {n : Nat} (h : n ≤ 127) : putVar n = [(n : Int)] := by rw [putVar, if_neg (by omega)]
theorem putVar_big {n : Nat} (h : 127 < n) : putVar n = ((n % 128 + 128 : Nat) : Int) :: putVar (n / 128) := by rw [putVar, if_pos h]
theorem putVar_length_le : ∀ (m n : Nat), n < 128 ^ (m + 1) → (putVar n).length ≤ m + 1 := by
  intro m
  induction m with
  | zero => intro n h; rw [putVar_small (by simpa using Nat.le_of_lt_succ h)]; simp
  | succ m ih =>
    intro n h
    by_cases hn : 127 < n
    · rw [putVar_big hn]
      have := ih (n / 128) (by rw [Nat.div_lt_iff_lt_mul (by omega), ← Nat.pow_succ]; exact h)
      simp; omega
    · rw [putVar_small (by omega)]; simp
theorem putVar_length_64 {n : Nat} (h : n ≤ 18446744073709551615) : (putVar n).length ≤ 10 := putVar_length_le 9 n (by omega)
theorem putVar_bytes : ∀ n, Bytes (putVar n) := by
  intro n
  induction n using Nat.strongRecOn with
  | ind n ih =>
    by_cases hn : 127 < n
    · rw [putVar_big hn]
      intro x hx
      rcases List.mem_cons.1 hx with rfl | hx
      · omega
      · exact ih _ (by omega) x hx
    · rw [putVar_small (by omega)]; exact Bytes.one (by omega) (by omega)
theorem putVar_ne_nil (n : Nat) : putVar n ≠ [] := by
  by_cases hn : 127 < n
  · rw [putVar_big hn]; simp
  · rw [putVar_small (by omega)]; simp
theorem putVar_pos (n : Nat) : 1 ≤ (putVar n).length := by
  have := putVar_ne_nil n
  cases h : putVar n with
  | nil => exact absurd h this
  | cons _ _ => simp
theorem or128 : ∀ x : Fin 256, Go.bits .or .u8 (x.val : Int) 128 = ((x.val % 128 + 128 : Nat) : Int) := by decide +kernel
theorem or128_nat (n : Nat) : Go.bits .or .u8 ((n : Int) % 256) 128 = ((n % 128 + 128 : Nat) : Int) := by
  have := or128 ⟨n % 256, by omega⟩
  simp only at this
  rw [show ((n : Int) % 256) = ((n % 256 : Nat) : Int) by omega, this]
  omega
theorem impl_PutVar_l0 : ∀ (n : Nat) (acc : List Int), acc.length + (putVar n).length ≤ 140737488355328 → Ev (fun k => impl_PutVar.l0 k (n : Int) acc) (acc ++ putVar n) := by
  intro n
  induction n using Nat.strongRecOn with
  | ind n ih =>
    intro acc h
    refine Ev_succ ?_
    simp only [impl_PutVar.l0]
    have hp := putVar_pos n
    by_cases hn : 127 < n
    · simp only [if_pos (show (n : Int) > 127 by omega), if_pos (show acc.length < 140737488355328 by omega)]
      rw [or128_nat, show (n : Int) / 128 = ((n / 128 : Nat) : Int) by omega]
      rw [putVar_big hn] at h
      refine Ev_cast (ih (n / 128) (by omega) _ (by simp at h ⊢; omega)) ?_
      rw [putVar_big hn]; simp
    · simp only [if_neg (show ¬ (n : Int) > 127 by omega), if_pos (show acc.length < 140737488355328 by omega)]
      rw [putVar_small (by omega), show (n : Int) % 256 = n by omega]
      exact Ev.now _
theorem impl_PutVar_ev (n : Nat) (h : n ≤ 18446744073709551615) : Ev (fun k => impl_PutVar.f k (n : Int)) (putVar n) := by
  unfold impl_PutVar.f
  have := putVar_length_64 h
  exact Ev_cast (impl_PutVar_l0 n [] (by simp; omega)) (by simp)
/-! ### texts as lists of bytes -/
theorem pw_toList_loop (s : ByteArray) : ∀ (d i : Nat) (r : List UInt8), s.size - i = d → i ≤ s.size → ByteArray.toList.loop s i r = r.reverse ++ s.data.toList.drop i := by
  intro d
  induction d with
  | zero =>
    intro i r hd hi
    rw [ByteArray.toList.loop, if_neg (by omega), List.drop_eq_nil_of_le (by simp; show s.data.size ≤ i; have : s.size = s.data.size := rfl; omega)]
    simp
  | succ d ih =>
    intro i r hd hi
    have hs : s.size = s.data.size := rfl
    rw [ByteArray.toList.loop, if_pos (by omega), ih (i + 1) _ (by omega) (by omega)]
    have : s.data.toList.drop i = s.get! i :: s.data.toList.drop (i + 1) := by
      rw [List.drop_eq_getElem_cons (by simp; omega)]
      congr 1
      simp [ByteArray.get!]
      rw [getElem!_pos s.data i (by omega)]
    rw [this]; simp
theorem toList_data (s : ByteArray) : s.toList = s.data.toList := by
  unfold ByteArray.toList
  rw [pw_toList_loop s s.size 0 [] (by omega) (by omega)]
  simp
theorem strOfNums_list (l : List Int) : (strOfNums l).toList = l.map fun n => UInt8.ofNat n.toNat := by
  rw [toList_data]; simp [strOfNums]
theorem bytes_map_inj : ∀ (a b : List Int), Bytes a → Bytes b → (a.map fun n => UInt8.ofNat n.toNat) = (b.map fun n => UInt8.ofNat n.toNat) → a = b := by
  intro a
  induction a with
  | nil => intro b _ _ h; cases b with
    | nil => rfl
    | cons _ _ => simp at h
  | cons x a ih =>
    intro b ha hb h
    cases b with
    | nil => simp at h
    | cons y b =>
      simp only [List.map_cons, List.cons.injEq] at h
      have h1 := ha x (by simp)
      have h2 := hb y (by simp)
      have h3 := congrArg UInt8.toNat h.1
      simp only [UInt8.toNat_ofNat'] at h3
      rw [ih b (fun z hz => ha z (by simp [hz])) (fun z hz => hb z (by simp [hz])) h.2]
      congr 1
      omega
theorem strOfNums_eq (a b : List Int) (ha : Bytes a) (hb : Bytes b) : ((strOfNums a).toList == (strOfNums b).toList) = decide (a = b) := by
  rw [strOfNums_list, strOfNums_list]
  by_cases h : a = b
  · subst h; simp
  · rw [decide_eq_false h, beq_eq_false_iff_ne]
    exact fun e => h (bytes_map_inj a b ha hb e)
/-! ### ReadVar -/
def vval : List Int → Nat
  | [] => 0
  | c :: t => (c % 128).toNat + 128 * vval t
theorem vval_snoc (p : List Int) (c : Int) : vval (p ++ [c]) = vval p + 128 ^ p.length * (c % 128).toNat := by
  induction p with
  | nil => simp [vval]
  | cons a p ih => simp only [List.cons_append, vval, ih, List.length_cons, Nat.pow_succ]; rw [Nat.mul_add, Nat.mul_comm (128 ^ p.length) 128, Nat.mul_assoc]; omega
theorem vval_lt (p : List Int) : vval p < 128 ^ p.length := by
  induction p with
  | nil => simp [vval]
  | cons a p ih =>
    simp only [vval, List.length_cons, Nat.pow_succ]
    have : (a % 128).toNat < 128 := by omega
    omega
theorem vval_putVar : ∀ n : Nat, vval (putVar n) = n := by
  intro n
  induction n using Nat.strongRecOn with
  | ind n ih =>
    by_cases h : 127 < n
    · rw [putVar_big h]; simp only [vval]; rw [ih _ (by omega)]; omega
    · rw [putVar_small (by omega)]; simp only [vval]; omega
/-- The bytes but the last have their eighth bit set. -/
def Conts (p : List Int) : Prop := ∀ x ∈ p, 128 ≤ x ∧ x ≤ 255
theorem putVar_vval : ∀ (p : List Int) (c : Int), Conts p → 0 ≤ c → c < 128 → (p = [] ∨ c ≠ 0) → putVar (vval (p ++ [c])) = p ++ [c] := by
  intro p
  induction p with
  | nil => intro c _ h0 h1 _; rw [List.nil_append, putVar_small (by simp [vval]; omega)]; simp [vval]; omega
  | cons a p ih =>
    intro c hp h0 h1 hc
    have hc' : c ≠ 0 := by rcases hc with h | h
                           · cases h
                           · exact h
    have ha := hp a (by simp)
    have hi := ih c (fun x hx => hp x (by simp [hx])) h0 h1 (.inr hc')
    have hpos : 1 ≤ vval (p ++ [c]) := by
      rw [vval_snoc]
      have h3 : 0 < 128 ^ p.length * (c % 128).toNat := Nat.mul_pos (Nat.pow_pos (by decide)) (by omega)
      omega
    have e1 : vval (a :: (p ++ [c])) = (a % 128).toNat + 128 * vval (p ++ [c]) := rfl
    rw [List.cons_append, e1, putVar_big (by omega)]
    rw [show ((a % 128).toNat + 128 * vval (p ++ [c])) / 128 = vval (p ++ [c]) by omega, hi]
    congr 1
    omega
theorem putVar_last : ∀ (n : Nat) (p : List Int) (c : Int), putVar n = p ++ [c] → (p = [] ∨ c ≠ 0) := by
  intro n
  induction n using Nat.strongRecOn with
  | ind n ih =>
    intro p c h
    by_cases hn : 127 < n
    · rw [putVar_big hn] at h
      cases p with
      | nil => exact .inl rfl
      | cons a p =>
        rw [List.cons_append] at h
        injection h with h1 h2
        rcases ih (n / 128) (by omega) p c h2 with rfl | h3
        · refine .inr ?_
          have h4 : vval (putVar (n / 128)) = n / 128 := vval_putVar _
          rw [h2] at h4
          simp [vval] at h4
          omega
        · exact .inr h3
    · rw [putVar_small (by omega)] at h
      cases p with
      | nil => exact .inl rfl
      | cons a p =>
        have := congrArg List.length h
        simp at this
/-- What a number's reading gives: from the bytes that were met, and those to come. -/
def readVar (at_ : Nat) : List Int → List Int → Int × Int × Bool
  | _, [] => (0, 0, false)
  | p, c :: t => if 10 ≤ p.length then (0, 0, false) else if c < 128 then (if (p = [] ∨ c ≠ 0) ∧ (p.length = 9 → c ≤ 1) then ((vval (p ++ [c]) : Int), (at_ : Int) + p.length + 1, true) else (0, 0, false)) else readVar at_ (p ++ [c]) t
theorem readVar_ten (at_ : Nat) (p t : List Int) (h : 10 ≤ p.length) : readVar at_ p t = (0, 0, false) := by
  cases t with
  | nil => rfl
  | cons c t => simp only [readVar, if_pos h]
theorem and127 : ∀ x : Fin 256, Go.bits .and .u8 (x.val : Int) 127 = ((x.val % 128 : Nat) : Int) := by decide +kernel
theorem and127_int {x : Int} (h : 0 ≤ x) (h' : x ≤ 255) : Go.bits .and .u8 x 127 = x % 128 := by
  have := and127 ⟨x.toNat, by omega⟩
  simp only at this
  rw [show ((x.toNat : Nat) : Int) = x by omega] at this
  rw [this]; omega
theorem wraps_u64 (n : Int) (h₀ : 0 ≤ n) (h₁ : n < 2 ^ 64) : IntKind.u64.wrap n = n := by rw [wrap_u64]; omega
theorem or_add_u64 (i : Nat) (hi : i ≤ 64) (x y : Int) (hx : 0 ≤ x) (hx' : x % 2 ^ i = 0) (hx2 : x < 2 ^ 64) (hy : 0 ≤ y) (hy' : y < 2 ^ i) : Go.bits .or .u64 y x = y + x := by
  have h2 : (2 : Int) ^ i ≤ 2 ^ 64 := by
    have := Nat.pow_le_pow_right (n := 2) (by decide) hi
    exact_mod_cast this
  have e := bits_join .u64 64 (by decide) wraps_u64 i x y hx hx' hx2 hy hy' (by omega)
  obtain ⟨a, rfl⟩ := Int.eq_ofNat_of_zero_le hx
  obtain ⟨b, rfl⟩ := Int.eq_ofNat_of_zero_le hy
  have ha : a < 2 ^ 64 := by exact_mod_cast hx2
  have hb : b < 2 ^ 64 := by
    have : (b : Int) < 2 ^ 64 := by omega
    exact_mod_cast this
  rw [(bits_nat .u64 64 (by decide) wraps_u64 b a hb ha).2, Nat.or_comm]
  rw [(bits_nat .u64 64 (by decide) wraps_u64 a b ha hb).2] at e
  rw [e]; omega
theorem two_pow_7 (j : Nat) : (2 : Int) ^ (7 * j) = 128 ^ j := by rw [Int.pow_mul]; rfl
/-- One more byte's seven bits. -/
theorem step_bits (p : List Int) (c : Int) (h0 : 0 ≤ c) (h1 : c ≤ 255) (hl : p.length ≤ 9) :
    Go.bits .or .u64 (vval p : Int) (shl .u64 (IntKind.u64.wrap (Go.bits .and .u8 c 127)) (7 * (p.length : Int))) = ((vval (p ++ [c]) : Nat) : Int) % 18446744073709551616 ∧ (p.length ≤ 8 → vval (p ++ [c]) < 9223372036854775808) := by
  have hv := vval_lt p
  have hp9 : (128 : Nat) ^ p.length ≤ 128 ^ 9 := Nat.pow_le_pow_right (by decide) hl
  have hc : (c % 128).toNat < 128 := by omega
  have hsn := vval_snoc p c
  refine ⟨?_, fun h8 => ?_⟩
  · rw [and127_int h0 h1, wraps_u64 _ (by omega) (by omega)]
    unfold shl
    rw [show (min (7 * (p.length : Int)).toNat IntKind.u64.bits) = 7 * p.length by simp [IntKind.bits]; omega, two_pow_7, wrap_u64]
    have e2 : ((128 : Nat) ^ p.length * (c % 128).toNat : Nat) = ((c % 128) * 128 ^ p.length : Int) := by
      push_cast
      rw [Int.mul_comm]
      congr 1
      omega
    rw [← e2, hsn]
    generalize hQ : 128 ^ p.length * (c % 128).toNat = Q
    have hd : Q % 128 ^ p.length = 0 := by rw [← hQ]; simp
    have hdv : (18446744073709551616 : Nat) % 128 ^ p.length = 0 := by
      have h7 : p.length = 0 ∨ p.length = 1 ∨ p.length = 2 ∨ p.length = 3 ∨ p.length = 4 ∨ p.length = 5 ∨ p.length = 6 ∨ p.length = 7 ∨ p.length = 8 ∨ p.length = 9 := by omega
      rcases h7 with h | h | h | h | h | h | h | h | h | h <;> rw [h]
    have hQd : (Q % 18446744073709551616) % 128 ^ p.length = 0 := by
      have : 128 ^ p.length ∣ Q % 18446744073709551616 := (Nat.dvd_mod_iff (Nat.dvd_of_mod_eq_zero hdv)).2 (Nat.dvd_of_mod_eq_zero hd)
      exact Nat.mod_eq_zero_of_dvd this
    have hv64 : vval p < 9223372036854775808 := Nat.lt_of_lt_of_le hv (by simpa using hp9)
    rw [show ((Q : Int) % 18446744073709551616) = ((Q % 18446744073709551616 : Nat) : Int) by omega]
    rw [or_add_u64 (7 * p.length) (by omega) _ _ (by omega) (by rw [two_pow_7]; exact_mod_cast hQd) (by omega) (by omega) (by rw [two_pow_7]; exact_mod_cast hv)]
    have hlt : vval p + Q % 18446744073709551616 < 18446744073709551616 := by
      -- both are below, and Q % 2^64 is a multiple of 128^len, 2^64 too
      have h1' : Q % 18446744073709551616 < 18446744073709551616 := Nat.mod_lt _ (by decide)
      obtain ⟨a, ha⟩ := Nat.dvd_of_mod_eq_zero hQd
      obtain ⟨b, hb⟩ := Nat.dvd_of_mod_eq_zero hdv
      have hab : a < b := by
        rw [ha, hb] at h1'
        exact Nat.lt_of_mul_lt_mul_left h1'
      have : 128 ^ p.length * a + 128 ^ p.length ≤ 128 ^ p.length * b := by
        rw [← Nat.mul_succ]; exact Nat.mul_le_mul_left _ hab
      omega
    omega
  · have h9 : (p ++ [c]).length ≤ 9 := by simp; omega
    have := vval_lt (p ++ [c])
    have h2 : (128 : Nat) ^ (p ++ [c]).length ≤ 128 ^ 9 := Nat.pow_le_pow_right (by decide) h9
    have : vval (p ++ [c]) < 128 ^ 9 := Nat.lt_of_lt_of_le this h2
    simpa using this
theorem spec_l1Var_l0 (l : List Int) (hb : Bytes l) (hl : l.length ≤ 281474976710656) (at_ : Nat) : ∀ (t p : List Int), l.drop at_ = p ++ t → at_ ≤ l.length → p.length ≤ 10 → Conts p →
    Ev (fun k => spec_l1Var.l0 k l (at_ : Int) (if p.length ≤ 9 then (vval p : Int) else 0) (p.length : Int)) ((readVar at_ p t).1, (readVar at_ p t).2.1) ∨ p.length = 10 := by
  intro t
  induction t with
  | nil =>
    intro p hd ha hp hcp
    by_cases h10 : p.length = 10
    · exact .inr h10
    refine .inl (Ev_succ ?_)
    have hlen := congrArg List.length hd
    simp at hlen
    simp only [spec_l1Var.l0, if_pos (show (p.length : Int) < 10 by omega)]
    rw [w64 (by omega) (by omega), decide_eq_false (by omega)]
    refine Ev_succ ?_
    simp only [spec_l1Var.j1]
    exact Ev.now _
  | cons c t ih =>
    intro p hd ha hp hcp
    by_cases h10 : p.length = 10
    · exact .inr h10
    refine .inl (Ev_succ ?_)
    have hlen := congrArg List.length hd
    simp at hlen
    have hrd : rd l ((at_ : Int) + p.length) = c := by
      have : (l.drop at_)[p.length]? = some c := by rw [hd]; simp
      rw [List.getElem?_drop] at this
      have h3 : at_ + p.length < l.length := by omega
      rw [show ((at_ : Int) + p.length) = ((at_ + p.length : Nat) : Int) by omega, rd_lt h3]
      rw [List.getElem?_eq_getElem h3] at this
      exact Option.some.inj this
    have hcm : c ∈ l := by
      have : c ∈ l.drop at_ := by rw [hd]; simp
      exact List.mem_of_mem_drop this
    have hcb := hb c hcm
    simp only [spec_l1Var.l0, if_pos (show (p.length : Int) < 10 by omega), if_pos (show p.length ≤ 9 by omega)]
    rw [w64 (by omega) (by omega), decide_eq_true (by omega)]
    refine Ev_succ ?_
    simp only [spec_l1Var.j1, if_true]
    rw [w64 (by omega) (by omega)]
    simp only [if_pos (show 0 ≤ (at_ : Int) + p.length by omega), if_pos (show (at_ : Int) + p.length < (l.length : Int) by omega), hrd]
    obtain ⟨sb, s8⟩ := step_bits p c hcb.1 hcb.2 (by omega)
    have go : ∀ b : Bool, b = decide (p.length = 9 ∧ c > 1) → Ev (fun k => spec_l1Var.j2 k l (at_ : Int) (vval p : Int) (p.length : Int) c b) ((readVar at_ p (c :: t)).1, (readVar at_ p (c :: t)).2.1) := by
      rintro b rfl
      refine Ev_succ ?_
      simp only [spec_l1Var.j2]
      by_cases h9 : p.length = 9 ∧ c > 1
      · simp only [h9, and_self, decide_true, if_true]
        refine Ev_cast (Ev.now _) ?_
        simp only [readVar]
        rw [if_neg (by omega)]
        by_cases hc8 : c < 128
        · rw [if_pos hc8, if_neg (by omega)]
        · rw [if_neg hc8, readVar_ten _ _ _ (by simp; omega)]
      · rw [decide_eq_false h9]
        simp only [Bool.false_eq_true, if_false]
        rw [w64 (by omega) (by omega), wraps_u64 _ (by omega) (by omega), sb]
        have hle : vval (p ++ [c]) < 18446744073709551616 := by
          by_cases h8 : p.length ≤ 8
          · have := s8 h8; omega
          · have h99 : p.length = 9 := by omega
            have h01 : c ≤ 1 := by omega
            rw [vval_snoc, h99]
            have := vval_lt p
            rw [h99] at this
            have h5 : (c % 128).toNat ≤ 1 := by omega
            have h6 : 128 ^ 9 * (c % 128).toNat ≤ 128 ^ 9 * 1 := Nat.mul_le_mul_left _ h5
            simp at this h6 ⊢
            omega
        rw [show ((vval (p ++ [c]) : Nat) : Int) % 18446744073709551616 = (vval (p ++ [c]) : Int) by omega]
        simp only [if_pos (show 0 ≤ 7 * (p.length : Int) by omega)]
        by_cases hc8 : c < 128
        · simp only [if_pos hc8]
          rw [w64 (n := (at_ : Int) + p.length) (by omega) (by omega), w64 (n := (at_ : Int) + p.length + 1) (by omega) (by omega)]
          have er : readVar at_ p (c :: t) = if (p = [] ∨ c ≠ 0) ∧ (p.length = 9 → c ≤ 1) then ((vval (p ++ [c]) : Int), (at_ : Int) + p.length + 1, true) else (0, 0, false) := by
            simp only [readVar]; rw [if_neg (by omega), if_pos hc8]
          rw [er]
          by_cases hp0 : p = []
          · subst hp0
            rw [if_pos (show (([] : List Int) = [] ∨ c ≠ 0) ∧ (([] : List Int).length = 9 → c ≤ 1) from ⟨.inl rfl, by simp⟩)]
            simp only [if_neg (show ¬ ((([] : List Int).length : Int) > 0) by simp)]
            exact Ev_cast (Ev.now _) (by simp)
          · have hpl : 0 < p.length := List.length_pos_iff.2 hp0
            simp only [if_pos (show (p.length : Int) > 0 by omega)]
            by_cases hc0 : c = 0
            · simp only [if_pos hc0]
              rw [if_neg (by simp [hp0, hc0])]
              exact Ev.now _
            · simp only [if_neg hc0]
              rw [if_pos ⟨.inr hc0, by omega⟩]
              exact Ev_cast (Ev.now _) rfl
        · simp only [if_neg hc8]
          rw [w64 (by omega) (by omega)]
          have e1 : readVar at_ p (c :: t) = readVar at_ (p ++ [c]) t := by
            simp only [readVar]; rw [if_neg (by omega), if_neg hc8]
          rw [e1]
          rcases ih (p ++ [c]) (by rw [hd]; simp) ha (by simp; omega) (by
            intro x hx
            rcases List.mem_append.1 hx with h | h
            · exact hcp x h
            · obtain rfl : x = c := by simpa using h
              omega) with h | h
          · by_cases h99 : p.length = 9
            · omega
            · rw [if_pos (by simp; omega)] at h
              simpa using h
          · simp at h
            omega
    by_cases h9 : (p.length : Int) = 9
    · simp only [if_pos h9]
      exact go _ (by have : p.length = 9 := by omega
                     simp [this])
    · simp only [if_neg h9]
      exact go _ (by have : ¬ p.length = 9 := by omega
                     simp [this])
theorem spec_l1Var_ev (l : List Int) (hb : Bytes l) (hl : l.length ≤ 281474976710656) (at_ : Nat) (ha : at_ ≤ l.length) : Ev (fun k => spec_l1Var.f k l (at_ : Int)) ((readVar at_ [] (l.drop at_)).1, (readVar at_ [] (l.drop at_)).2.1) := by
  unfold spec_l1Var.f
  rcases spec_l1Var_l0 l hb hl at_ (l.drop at_) [] (by simp) ha (by simp) (fun x hx => by cases hx) with h | h
  · simpa [vval] using h
  · simp at h
theorem impl_ReadVar_l0 (l : List Int) (hb : Bytes l) (hl : l.length ≤ 281474976710656) (at_ : Nat) : ∀ (t p : List Int), l.drop at_ = p ++ t → at_ ≤ l.length → p.length ≤ 10 → Conts p →
    ∀ x : Int, (p.length ≤ 9 → x = (vval p : Int)) → Ev (fun k => impl_ReadVar.l0 k l (at_ : Int) x ((at_ : Int) + p.length)) (readVar at_ p t) := by
  intro t
  induction t with
  | nil =>
    intro p hd ha hp hcp x hx
    refine Ev_succ ?_
    have hlen := congrArg List.length hd
    simp at hlen
    simp only [impl_ReadVar.l0]
    rw [w64 (n := (at_ : Int) + 10) (by omega) (by omega)]
    simp only [if_neg (show ¬ (at_ : Int) + p.length < mn (l.length : Int) ((at_ : Int) + 10) by unfold mn; split <;> omega)]
    exact Ev.now _
  | cons c t ih =>
    intro p hd ha hp hcp x hx
    refine Ev_succ ?_
    have hlen := congrArg List.length hd
    simp at hlen
    simp only [impl_ReadVar.l0]
    by_cases h10 : p.length = 10
    · rw [w64 (n := (at_ : Int) + 10) (by omega) (by omega), readVar_ten _ _ _ (by omega)]
      simp only [if_neg (show ¬ (at_ : Int) + p.length < mn (l.length : Int) ((at_ : Int) + 10) by unfold mn; split <;> omega)]
      exact Ev.now _
    have hx := hx (by omega)
    subst hx
    have hrd : rd l ((at_ : Int) + p.length) = c := by
      have : (l.drop at_)[p.length]? = some c := by rw [hd]; simp
      rw [List.getElem?_drop] at this
      have h3 : at_ + p.length < l.length := by omega
      rw [show ((at_ : Int) + p.length) = ((at_ + p.length : Nat) : Int) by omega, rd_lt h3]
      rw [List.getElem?_eq_getElem h3] at this
      exact Option.some.inj this
    have hcm : c ∈ l := by
      have : c ∈ l.drop at_ := by rw [hd]; simp
      exact List.mem_of_mem_drop this
    have hcb := hb c hcm
    obtain ⟨sb, s8⟩ := step_bits p c hcb.1 hcb.2 (by omega)
    rw [w64 (n := (at_ : Int) + 10) (by omega) (by omega)]
    simp only [if_pos (show (at_ : Int) + p.length < mn (l.length : Int) ((at_ : Int) + 10) by unfold mn; split <;> omega)]
    simp only [hrd]
    rw [w64 (n := (at_ : Int) + p.length - at_) (by omega) (by omega), show (at_ : Int) + p.length - at_ = (p.length : Int) by omega, w64 (n := 7 * (p.length : Int)) (by omega) (by omega), w64 (n := (at_ : Int) + p.length + 1) (by omega) (by omega), sb]
    simp only [if_pos (show 0 ≤ (at_ : Int) + p.length by omega), if_pos (show (at_ : Int) + p.length < (l.length : Int) by omega), if_pos (show 0 ≤ 7 * (p.length : Int) by omega)]
    by_cases hc8 : c < 128
    · simp only [if_pos hc8]
      have er : readVar at_ p (c :: t) = if (p = [] ∨ c ≠ 0) ∧ (p.length = 9 → c ≤ 1) then ((vval (p ++ [c]) : Int), (at_ : Int) + p.length + 1, true) else (0, 0, false) := by
        simp only [readVar]; rw [if_neg (by omega), if_pos hc8]
      rw [er]
      rw [show ((vval (p ++ [c]) : Nat) : Int) % 18446744073709551616 = ((vval (p ++ [c]) % 18446744073709551616 : Nat) : Int) by omega]
      have hm : vval (p ++ [c]) % 18446744073709551616 ≤ 18446744073709551615 := by omega
      refine Ev.bind (impl_PutVar_ev _ hm) ?_
      simp only [if_pos (show 0 ≤ (at_ : Int) by omega), if_pos (show (at_ : Int) ≤ (at_ : Int) + p.length + 1 by omega), if_pos (show (at_ : Int) + p.length + 1 ≤ (l.length : Int) by omega)]
      have hcut : (l.take ((at_ : Int) + p.length + 1).toNat).drop (at_ : Int).toNat = p ++ [c] := by
        rw [show ((at_ : Int) + p.length + 1).toNat = at_ + (p.length + 1) by omega, show ((at_ : Int)).toNat = at_ by omega, ← List.take_drop, hd]
        rw [show p ++ c :: t = (p ++ [c]) ++ t by simp, List.take_append_of_le_length (by simp)]
        rw [List.take_of_length_le (by simp)]
      rw [hcut]
      have hpb : Bytes (p ++ [c]) := by
        intro y hy
        have : y ∈ l.drop at_ := by rw [hd, show p ++ c :: t = (p ++ [c]) ++ t by simp]; exact List.mem_append_left _ hy
        exact hb y (List.mem_of_mem_drop this)
      refine Ev.bind (Ev_some (by unfold bytes_Equal.f; rw [strOfNums_eq _ _ (putVar_bytes _) hpb])) ?_
      by_cases hg : (p = [] ∨ c ≠ 0) ∧ (p.length = 9 → c ≤ 1)
      · rw [if_pos hg]
        have hle : vval (p ++ [c]) < 18446744073709551616 := by
          by_cases h8 : p.length ≤ 8
          · have := s8 h8; omega
          · have h99 : p.length = 9 := by omega
            have h01 : c ≤ 1 := hg.2 h99
            rw [vval_snoc, h99]
            have := vval_lt p
            rw [h99] at this
            have h5 : (c % 128).toNat ≤ 1 := by omega
            have h6 : 128 ^ 9 * (c % 128).toNat ≤ 128 ^ 9 * 1 := Nat.mul_le_mul_left _ h5
            simp at this h6 ⊢
            omega
        rw [Nat.mod_eq_of_lt hle]
        rw [decide_eq_true (putVar_vval p c hcp hcb.1 hc8 hg.1)]
        simp only [if_true]
        exact Ev.now _
      · rw [if_neg hg]
        have hne : ¬ putVar (vval (p ++ [c]) % 18446744073709551616) = p ++ [c] := by
          intro e
          have h1 := putVar_last _ _ _ e
          have h2 := vval_putVar (vval (p ++ [c]) % 18446744073709551616)
          rw [e] at h2
          apply hg
          refine ⟨h1, fun h9 => ?_⟩
          have h3 : vval (p ++ [c]) < 18446744073709551616 := by omega
          rw [vval_snoc, h9] at h3
          by_cases hc2 : c ≤ 1
          · exact hc2
          · exfalso
            have h5 : 2 ≤ (c % 128).toNat := by omega
            have h6 : 128 ^ 9 * 2 ≤ 128 ^ 9 * (c % 128).toNat := Nat.mul_le_mul_left _ h5
            simp at h3 h6
            omega
        rw [decide_eq_false hne]
        simp only [Bool.false_eq_true, if_false]
        exact Ev.now _
    · simp only [if_neg hc8]
      have e1 : readVar at_ p (c :: t) = readVar at_ (p ++ [c]) t := by
        simp only [readVar]; rw [if_neg (by omega), if_neg hc8]
      rw [e1, show (at_ : Int) + p.length + 1 = (at_ : Int) + ((p ++ [c]).length : Int) by simp; omega]
      refine ih (p ++ [c]) (by rw [hd]; simp) ha (by simp; omega) ?_ _ (fun h => ?_)
      · intro x hx
        rcases List.mem_append.1 hx with h | h
        · exact hcp x h
        · obtain rfl : x = c := by simpa using h
          omega
      · have : p.length ≤ 8 := by simp at h; omega
        have := s8 this
        omega
theorem impl_ReadVar_ev (l : List Int) (hb : Bytes l) (hl : l.length ≤ 281474976710656) (a : Int) : Ev (fun k => impl_ReadVar.f k l a) (if 0 ≤ a ∧ a ≤ l.length then readVar a.toNat [] (l.drop a.toNat) else (0, 0, false)) := by
  unfold impl_ReadVar.f
  refine Ev.bind (Ev_some (within_eq _ _ _)) ?_
  by_cases h : 0 ≤ a ∧ a ≤ l.length
  · rw [decide_eq_true h, if_pos h]
    simp only [if_true]
    have := impl_ReadVar_l0 l hb hl a.toNat (l.drop a.toNat) [] (by simp) (by omega) (by simp) (fun x hx => by cases hx) 0 (fun _ => by simp [vval])
    simp only [List.length_nil, Int.natCast_zero, Int.add_zero] at this
    rwa [show ((a.toNat : Nat) : Int) = a by omega] at this
  · rw [decide_eq_false h, if_neg h]
    simp only [Bool.false_eq_true, if_false]
    exact Ev.now _
theorem readVar_ok (at_ : Nat) : ∀ (t p : List Int), readVar at_ p t = ((readVar at_ p t).1, (readVar at_ p t).2.1, decide ((readVar at_ p t).2.1 > 0)) := by
  intro t
  induction t with
  | nil => intro p; rfl
  | cons c t ih =>
    intro p
    simp only [readVar]
    by_cases h1 : 10 ≤ p.length
    · simp only [if_pos h1]; rfl
    · simp only [if_neg h1]
      by_cases h2 : c < 128
      · simp only [if_pos h2]
        by_cases h3 : (p = [] ∨ c ≠ 0) ∧ (p.length = 9 → c ≤ 1)
        · simp only [if_pos h3]
          rw [decide_eq_true (show (at_ : Int) + p.length + 1 > 0 by omega)]
        · simp only [if_neg h3]; rfl
      · simp only [if_neg h2]; exact ih _
def zig (n : Int) : Nat := if n < 0 then (-2 * n - 1).toNat else (2 * n).toNat
def putAll : List Int → List Int
  | [] => []
  | n :: t => putVar (zig n) ++ putAll t
def aggB (c s mn mx : Int) (h : List Int) (f : Bool) : List Int := (if f = true then 1 else 0) :: putAll ([c, s, mn, mx] ++ h)
def smallOk (l : List Int) : Prop := ∀ x ∈ l, -1000000000000000000 ≤ x ∧ x ≤ 1000000000000000000
theorem zig_le {n : Int} (h : -1000000000000000000 ≤ n ∧ n ≤ 1000000000000000000) : zig n ≤ 2000000000000000000 := by
  unfold zig
  split <;> omega
theorem zig_wrap {n : Int} (h : -1000000000000000000 ≤ n ∧ n ≤ 1000000000000000000) : (n < 0 → IntKind.u64.wrap (wrap64 (wrap64 (-2 * n) - 1)) = (zig n : Int)) ∧ (¬ n < 0 → IntKind.u64.wrap (wrap64 (2 * n)) = (zig n : Int)) := by
  constructor
  · intro hn
    rw [w64 (n := -2 * n) (by omega) (by omega), w64 (by omega) (by omega), wrap_u64]
    unfold zig
    rw [if_pos hn]; omega
  · intro hn
    rw [w64 (by omega) (by omega), wrap_u64]
    unfold zig
    rw [if_neg hn]; omega
theorem putAll_length : ∀ l, smallOk l → (putAll l).length ≤ 10 * l.length := by
  intro l
  induction l with
  | nil => intro _; simp [putAll]
  | cons a t ih =>
    intro h
    have h1 := putVar_length_64 (n := zig a) (by have := zig_le (h a (List.mem_cons_self ..)); omega)
    have h2 := ih (fun x hx => h x (List.mem_cons_of_mem _ hx))
    simp only [putAll, List.length_append, List.length_cons]
    omega
theorem aggB_length (c s mn mx : Int) (h : List Int) (f : Bool) (hs : smallOk ([c, s, mn, mx] ++ h)) : (aggB c s mn mx h f).length ≤ 10 * h.length + 41 := by
  have := putAll_length _ hs
  unfold aggB
  simp at this ⊢
  omega
theorem goodAgg_small {c s mn mx : Int} {h : List Int} {f : Bool} (hg : goodAgg c s mn mx h f) : smallOk ([c, s, mn, mx] ++ h) := by
  obtain ⟨hc, h8, hh, ht⟩ := hg
  have hb : (-1000000000000000000 ≤ s ∧ s ≤ 1000000000000000000) ∧ (-1000000000 ≤ mn ∧ mn ≤ 1000000000) ∧ (-1000000000 ≤ mx ∧ mx ≤ 1000000000) := by
    rcases ht with ht | ht
    · omega
    · have v1 := ht.2.1
      have v2 := ht.2.2.1
      unfold valueOk at v1 v2
      rcases ht.2.2.2.2 with hz | hz <;> omega
  intro x hx
  simp only [List.cons_append, List.nil_append, List.mem_cons] at hx
  rcases hx with rfl | rfl | rfl | rfl | hx
  · omega
  · omega
  · omega
  · omega
  · have := hh x hx; omega
theorem impl_aggBytes_l0 (l : List Int) (hs : smallOk l) (hl : l.length ≤ 1000000) : ∀ (d i : Nat) (acc : List Int), l.length - i = d → i ≤ l.length → acc.length + 10 * d ≤ 100000000 → Ev (fun k => impl_aggBytes.l0 k acc l (l.length : Int) (i : Int)) (acc ++ putAll (l.drop i)) := by
  intro d
  induction d with
  | zero =>
    intro i acc hd hi ha
    refine Ev_succ ?_
    simp only [impl_aggBytes.l0]
    simp only [if_neg (show ¬ (i : Int) < (l.length : Int) by omega)]
    rw [List.drop_eq_nil_of_le (by omega)]
    exact Ev_cast (Ev.now _) (by simp [putAll])
  | succ d ih =>
    intro i acc hd hi ha
    refine Ev_succ ?_
    simp only [impl_aggBytes.l0]
    simp only [if_pos (show (i : Int) < (l.length : Int) by omega), if_pos (show 0 ≤ (i : Int) by omega)]
    rw [rd_lt (by omega), drop_cons (l := l) (i := i) (by omega)]
    have hx := hs (l[i]'(by omega)) (List.getElem_mem _)
    generalize l[i]'(by omega) = x at hx ⊢
    have hz := zig_le hx
    have hp := putVar_length_64 (n := zig x) (by omega)
    obtain ⟨z1, z2⟩ := zig_wrap hx
    rw [w64 (n := (i : Int) + 1) (by omega) (by omega)]
    have nx := ih (i + 1) (acc ++ putVar (zig x)) (by omega) (by omega) (by rw [List.length_append]; omega)
    by_cases hn : x < 0
    · simp only [if_pos hn, z1 hn]
      refine Ev.bind (impl_PutVar_ev _ (by omega)) ?_
      simp only [if_pos (show acc.length + (putVar (zig x)).length < 140737488355328 by omega)]
      exact Ev_cast nx (by simp [putAll])
    · simp only [if_neg hn, z2 hn]
      refine Ev.bind (impl_PutVar_ev _ (by omega)) ?_
      simp only [if_pos (show acc.length + (putVar (zig x)).length < 140737488355328 by omega)]
      exact Ev_cast nx (by simp [putAll])
theorem impl_aggBytes_ev (c s mn mx : Int) (h : List Int) (f : Bool) (hl : h.length ≤ 100000) (hs : smallOk ([c, s, mn, mx] ++ h)) : Ev (fun k => impl_aggBytes.f k c s mn mx h f) (aggB c s mn mx h f) := by
  unfold impl_aggBytes.f
  simp only [Option.bind_some]
  have go : ∀ b : Int, Ev (fun k => impl_aggBytes.j0 k [b] c s mn mx h f) (b :: putAll ([c, s, mn, mx] ++ h)) := by
    intro b
    refine Ev_succ ?_
    simp only [impl_aggBytes.j0]
    refine Ev.bind (a := [c, s, mn, mx] ++ h) (Ev_some ?_) ?_
    · unfold impl_Agg_numbers.f
      simp only [Option.bind_some]
      rw [if_pos (by simp; omega)]
    have := impl_aggBytes_l0 ([c, s, mn, mx] ++ h) hs (by simp; omega) ([c, s, mn, mx] ++ h).length 0 [b] (by omega) (by omega) (by simp; omega)
    simpa using this
  cases f with
  | true =>
    simp only [if_true, if_pos (show (0 : Int) < (([0] : List Int).length : Int) by simp)]
    exact go 1
  | false =>
    simp only [Bool.false_eq_true, if_false]
    exact go 0
/-! ### ReadAgg -/
theorem readVar_split (at_ : Nat) : ∀ (t p : List Int), Conts p → Bytes t → (readVar at_ p t).2.2 = true →
    ∃ (n : Nat) (r : List Int), p ++ t = putVar n ++ r ∧ n ≤ 18446744073709551615 ∧ (readVar at_ p t).1 = (n : Int) ∧ (readVar at_ p t).2.1 = ((at_ + (putVar n).length : Nat) : Int) := by
  intro t
  induction t with
  | nil => intro p _ _ h; simp [readVar] at h
  | cons c t ih =>
    intro p hp hb h
    have hc := hb c (List.mem_cons_self ..)
    simp only [readVar] at h ⊢
    by_cases h1 : 10 ≤ p.length
    · simp [if_pos h1] at h
    · simp only [if_neg h1] at h ⊢
      by_cases h2 : c < 128
      · simp only [if_pos h2] at h ⊢
        by_cases h3 : (p = [] ∨ c ≠ 0) ∧ (p.length = 9 → c ≤ 1)
        · simp only [if_pos h3]
          have hv := putVar_vval p c hp hc.1 h2 h3.1
          refine ⟨vval (p ++ [c]), t, by rw [hv]; simp, ?_, rfl, by rw [hv]; simp; omega⟩
          by_cases h9 : p.length = 9
          · have hc1 := h3.2 h9
            have := vval_lt p
            rw [vval_snoc, h9]
            rw [h9] at this
            have hcc : (c % 128).toNat ≤ 1 := by omega
            have hm : 128 ^ 9 * (c % 128).toNat ≤ 128 ^ 9 * 1 := Nat.mul_le_mul_left _ hcc
            omega
          · have h8 := vval_lt (p ++ [c])
            have : (128 : Nat) ^ (p ++ [c]).length ≤ 128 ^ 9 := Nat.pow_le_pow_right (by decide) (by simp; omega)
            omega
        · simp [if_neg h3] at h
      · simp only [if_neg h2] at h ⊢
        obtain ⟨n, r, e, rest⟩ := ih (p ++ [c]) (fun x hx => by
          rcases List.mem_append.1 hx with hx | hx
          · exact hp x hx
          · rw [List.mem_singleton.1 hx]; omega) (fun x hx => hb x (List.mem_cons_of_mem _ hx)) h
        exact ⟨n, r, by rw [← e]; simp, rest⟩
/-- a number out of its code -/
def zag (x : Int) : Int := if x % 2 = 1 then -(x / 2) - 1 else x / 2
theorem zig_zag (n : Nat) : zig (zag n) = n := by
  unfold zig zag
  by_cases h : (n : Int) % 2 = 1
  · simp only [if_pos h]
    rw [if_pos (by omega)]; omega
  · simp only [if_neg h]
    rw [if_neg (by omega)]; omega
theorem impl_zig (n : Nat) (hn : n ≤ 18446744073709551615) : impl_ReadAgg.zig n = zag n := by
  unfold impl_ReadAgg.zig zag
  have hb : Go.bits .and .u64 (n : Int) 1 = (n : Int) % 2 := bits_mask .u64 64 (by decide) wraps_u64 1 (by decide) (n : Int) (by omega) (by omega)
  rw [show (BinOp.and) = Go.BinOp.and from rfl] at *
  have e : Go.bits BinOp.and IntKind.u64 (n : Int) 1 = (n : Int) % 2 := hb
  rw [e, w64 (n := (n : Int) / 2) (by omega) (by omega)]
  by_cases h : (n : Int) % 2 = 1
  · rw [if_pos (by simp [h]), if_pos h, w64 (n := -((n : Int) / 2)) (by omega) (by omega), w64 (by omega) (by omega)]
  · rw [if_neg (by simpa using h), if_neg h]
theorem spec_zig (n : Nat) (hn : n ≤ 18446744073709551615) : spec_ReadAgg.zig n = zag n := by
  unfold spec_ReadAgg.zig zag
  have e1 : (n : Int).tmod 2 = (n : Int) % 2 := by rw [Int.tmod_eq_emod_of_nonneg (by omega)]
  have e2 : (n : Int).tdiv 2 = (n : Int) / 2 := by rw [Int.tdiv_eq_ediv_of_nonneg (by omega)]
  rw [e1, e2, wraps_u64 _ (by omega) (by omega), w64 (n := (n : Int) / 2) (by omega) (by omega)]
  by_cases h : (n : Int) % 2 = 1
  · rw [if_pos (by simp [h]), if_pos h, w64 (n := -((n : Int) / 2)) (by omega) (by omega), w64 (by omega) (by omega)]
  · rw [if_neg (by simpa using h), if_neg h]
/-- so many numbers, read one behind the other -/
def dnums (l : List Int) : Nat → List Int → Nat → Option (List Int × Nat)
  | 0, acc, a => some (acc, a)
  | n + 1, acc, a => if (readVar a [] (l.drop a)).2.2 = true then dnums l n (acc ++ [zag (readVar a [] (l.drop a)).1]) (readVar a [] (l.drop a)).2.1.toNat else none
theorem step_at {l : List Int} (hb : Bytes l) {a : Nat} (ha : a ≤ l.length) (h : (readVar a [] (l.drop a)).2.2 = true) :
    ∃ n : Nat, n ≤ 18446744073709551615 ∧ (readVar a [] (l.drop a)).1 = (n : Int) ∧ (readVar a [] (l.drop a)).2.1 = ((a + (putVar n).length : Nat) : Int) ∧ l.drop a = putVar n ++ l.drop (a + (putVar n).length) ∧ a + (putVar n).length ≤ l.length := by
  obtain ⟨n, r, e, hn, e1, e2⟩ := readVar_split a (l.drop a) [] (fun x hx => by cases hx) (fun x hx => hb x (List.mem_of_mem_drop hx)) h
  rw [List.nil_append] at e
  refine ⟨n, hn, e1, e2, ?_, ?_⟩
  · have : l.drop (a + (putVar n).length) = r := by rw [← List.drop_drop, e, List.drop_left]
    rw [this, e]
  · have := congrArg List.length e
    rw [List.length_drop, List.length_append] at this
    omega
theorem dnums_split {l : List Int} (hb : Bytes l) : ∀ (n : Nat) (acc : List Int) (a : Nat) (L : List Int) (b : Nat), a ≤ l.length → dnums l n acc a = some (L, b) →
    ∃ xs : List Nat, L = acc ++ xs.map (fun x : Nat => zag (x : Int)) ∧ xs.length = n ∧ (∀ x ∈ xs, x ≤ 18446744073709551615) ∧ l.drop a = xs.flatMap putVar ++ l.drop b ∧ b ≤ l.length := by
  intro n
  induction n with
  | zero =>
    intro acc a L b ha h
    simp only [dnums, Option.some.injEq, Prod.mk.injEq] at h
    obtain ⟨rfl, rfl⟩ := h
    exact ⟨[], by simp, rfl, fun x hx => (by cases hx), by simp, ha⟩
  | succ n ih =>
    intro acc a L b ha h
    simp only [dnums] at h
    by_cases hok : (readVar a [] (l.drop a)).2.2 = true
    · rw [if_pos hok] at h
      obtain ⟨x, hx, e1, e2, e3, e4⟩ := step_at hb ha hok
      rw [e1, e2, Int.toNat_natCast] at h
      obtain ⟨xs, h1, h2, h3, h4, h5⟩ := ih _ _ _ _ e4 h
      refine ⟨x :: xs, by rw [h1]; simp, by simp [h2], fun y hy => ?_, by rw [e3, h4]; simp, h5⟩
      rcases List.mem_cons.1 hy with hy | hy
      · rw [hy]; exact hx
      · exact h3 y hy
    · rw [if_neg hok] at h; cases h
theorem putAll_zag : ∀ xs : List Nat, putAll (xs.map (fun x : Nat => zag (x : Int))) = xs.flatMap putVar
  | [] => rfl
  | x :: xs => by simp only [List.map_cons, putAll, List.flatMap_cons, zig_zag, putAll_zag xs]
theorem impl_l_ev (l : List Int) (hb : Bytes l) (hl : l.length ≤ 281474976710656) : ∀ (n : Nat) (acc : List Int) (a : Nat), a ≤ l.length → Ev (fun k => impl_ReadAgg.l k l n acc (a : Int)) ((dnums l n acc a).map Prod.fst) := by
  intro n
  induction n with
  | zero => intro acc a _; simp only [impl_ReadAgg.l, dnums]; exact Ev.now _
  | succ n ih =>
    intro acc a ha
    simp only [impl_ReadAgg.l, dnums]
    have h0 := impl_ReadVar_ev l hb hl (a : Int)
    rw [if_pos (by omega), Int.toNat_natCast] at h0
    refine Ev.bind h0 ?_
    by_cases hok : (readVar a [] (l.drop a)).2.2 = true
    · obtain ⟨x, hx, e1, e2, e3, e4⟩ := step_at hb ha hok
      simp only [if_pos hok, e1, e2, Int.toNat_natCast, impl_zig x hx]
      exact ih _ _ e4
    · simp only [if_neg hok]; exact Ev.now _
/-- as the specification reads them: none is greater than 2 to the 62 -/
def snums (l : List Int) : Nat → List Int → Nat → Option (List Int × Nat)
  | 0, acc, a => some (acc, a)
  | n + 1, acc, a => if (readVar a [] (l.drop a)).2.2 = true ∧ (readVar a [] (l.drop a)).1 ≤ 4611686018427387904 then snums l n (acc ++ [zag (readVar a [] (l.drop a)).1]) (readVar a [] (l.drop a)).2.1.toNat else none
theorem readVar_nonneg (at_ : Nat) : ∀ (t p : List Int), 0 ≤ (readVar at_ p t).2.1 := by
  intro t
  induction t with
  | nil => intro p; simp [readVar]
  | cons c t ih =>
    intro p
    simp only [readVar]
    by_cases h1 : 10 ≤ p.length
    · simp [if_pos h1]
    · simp only [if_neg h1]
      by_cases h2 : c < 128
      · simp only [if_pos h2]
        split
        · show (0 : Int) ≤ (at_ : Int) + p.length + 1
          omega
        · simp
      · simp only [if_neg h2]; exact ih _
theorem spec_l_ev (l : List Int) (hb : Bytes l) (hl : l.length ≤ 281474976710656) : ∀ (n : Nat) (acc : List Int) (a : Nat), a ≤ l.length → Ev (fun k => spec_ReadAgg.l k l n acc (a : Int)) ((snums l n acc a).map (fun p => (p.1, (p.2 : Int)))) := by
  intro n
  induction n with
  | zero => intro acc a _; simp only [spec_ReadAgg.l, snums]; exact Ev.now _
  | succ n ih =>
    intro acc a ha
    simp only [spec_ReadAgg.l, snums]
    refine Ev.bind (spec_l1Var_ev l hb hl a ha) ?_
    by_cases hok : (readVar a [] (l.drop a)).2.2 = true
    · obtain ⟨x, hx, e1, e2, e3, e4⟩ := step_at hb ha hok
      have hp := putVar_pos x
      have hz : ((((a + (putVar x).length : Nat) : Int)) == 0) = false := by simp only [beq_eq_false_iff_ne]; omega
      simp only [e1, e2, Int.toNat_natCast, spec_zig x hx, hz, Bool.false_eq_true, if_false]
      by_cases hbig : (x : Int) > 4611686018427387904
      · simp only [decide_eq_true hbig, if_true]
        rw [if_neg (fun h => by omega)]
        exact Ev.now _
      · simp only [decide_eq_false hbig, Bool.false_eq_true, if_false]
        rw [if_pos ⟨hok, by omega⟩]
        exact ih _ _ e4
    · have hz : ((readVar a [] (l.drop a)).2.1 == 0) = true := by
        have h := readVar_ok a (l.drop a) []
        have h2 : (readVar a [] (l.drop a)).2.2 = decide ((readVar a [] (l.drop a)).2.1 > 0) := by
          have := congrArg (fun z => z.2.2) h; exact this
        rw [h2] at hok
        simp only [decide_eq_true_eq] at hok
        have h3 := readVar_nonneg a (l.drop a) []
        simp only [beq_iff_eq]; omega
      simp only [hz, if_true]
      rw [if_neg (fun h => hok h.1)]
      exact Ev.now _
theorem snums_of {l : List Int} (hb : Bytes l) : ∀ (n : Nat) (acc : List Int) (a : Nat) (L : List Int) (b : Nat), a ≤ l.length → snums l n acc a = some (L, b) → dnums l n acc a = some (L, b) := by
  intro n
  induction n with
  | zero => intro acc a L b _ h; exact h
  | succ n ih =>
    intro acc a L b ha h
    simp only [snums] at h
    simp only [dnums]
    by_cases hok : (readVar a [] (l.drop a)).2.2 = true ∧ (readVar a [] (l.drop a)).1 ≤ 4611686018427387904
    · rw [if_pos hok] at h
      rw [if_pos hok.1]
      obtain ⟨x, hx, e1, e2, e3, e4⟩ := step_at hb ha hok.1
      refine ih _ _ _ _ ?_ h
      rw [e2, Int.toNat_natCast]; exact e4
    · rw [if_neg hok] at h; cases h
theorem of_dnums {l : List Int} (hb : Bytes l) : ∀ (n : Nat) (acc : List Int) (a : Nat) (L : List Int) (b : Nat), a ≤ l.length → smallOk (L.drop acc.length) → dnums l n acc a = some (L, b) → snums l n acc a = some (L, b) := by
  intro n
  induction n with
  | zero => intro acc a L b _ _ h; exact h
  | succ n ih =>
    intro acc a L b ha hs h
    have hsplit := dnums_split hb (n + 1) acc a L b ha h
    simp only [dnums] at h
    simp only [snums]
    by_cases hok : (readVar a [] (l.drop a)).2.2 = true
    · rw [if_pos hok] at h
      obtain ⟨x, hx, e1, e2, e3, e4⟩ := step_at hb ha hok
      rw [e1, e2, Int.toNat_natCast] at h ⊢
      obtain ⟨ys, h1, _⟩ := dnums_split hb n _ _ L b e4 h
      have hz : -1000000000000000000 ≤ zag (x : Int) ∧ zag (x : Int) ≤ 1000000000000000000 := by
        refine hs _ ?_
        rw [h1, List.append_assoc, List.drop_left]
        simp
      have hle : x ≤ 4611686018427387904 := by
        have h3 := zig_le hz
        rw [zig_zag] at h3
        omega
      rw [if_pos ⟨hok, by omega⟩]
      refine ih _ _ L b e4 (fun y hy => hs y ?_) h
      rw [h1] at hy ⊢
      rw [List.drop_left] at hy
      rw [List.append_assoc, List.drop_left]
      exact List.mem_append_right _ hy
    · rw [if_neg hok] at h; cases h
theorem putAll_bytes : ∀ l : List Int, Bytes (putAll l)
  | [] => Bytes.nil
  | n :: t => Bytes.app (putVar_bytes _) (putAll_bytes t)
theorem aggB_bytes (c s mn mx : Int) (h : List Int) (f : Bool) : Bytes (aggB c s mn mx h f) := by
  unfold aggB
  intro x hx
  rcases List.mem_cons.1 hx with hx | hx
  · rw [hx]; split <;> omega
  · exact putAll_bytes _ x hx
abbrev zeroAgg : Int × Int × Int × Int × List Int × Bool × Bool := (0, 0, 0, 0, [], false, false)
/-- what both answer -/
def readAggR (l : List Int) : Int × Int × Int × Int × List Int × Bool × Bool :=
  match dnums l 12 [] 1 with
  | none => zeroAgg
  | some (L, _) => if goodAgg (rd L 0) (rd L 1) (rd L 2) (rd L 3) (L.drop 4) (rd l 0 == 1) ∧ aggB (rd L 0) (rd L 1) (rd L 2) (rd L 3) (L.drop 4) (rd l 0 == 1) = l then (rd L 0, rd L 1, rd L 2, rd L 3, L.drop 4, (rd l 0 == 1), true) else zeroAgg
theorem list12 {L : List Int} (h : L.length = 12) : [rd L 0, rd L 1, rd L 2, rd L 3] ++ L.drop 4 = L := by
  match L, h with
  | a :: b :: c :: d :: t, _ => rfl
theorem impl_ReadAgg_ev (l : List Int) (hb : Bytes l) (hl : l.length ≤ 1048576) (hl1 : 0 < l.length) : Ev (fun k => impl_ReadAgg.f k l) (readAggR l) := by
  unfold impl_ReadAgg.f readAggR
  simp only [if_neg (show ¬ l.length = 0 by omega)]
  refine Ev.bind (impl_l_ev l hb (by omega) 12 [] 1 (by omega)) ?_
  cases hd : dnums l 12 [] 1 with
  | none => simp only [Option.map_none, Option.elim_none]; exact Ev.now _
  | some p =>
    obtain ⟨L, b⟩ := p
    simp only [Option.map_some, Option.elim_some]
    unfold impl_ReadAgg.g
    refine Ev.bind (impl_GoodAgg_ev _ _ _ _ _ _) ?_
    by_cases hg : goodAgg (rd L 0) (rd L 1) (rd L 2) (rd L 3) (L.drop 4) (rd l 0 == 1)
    · simp only [decide_eq_true hg, if_true]
      have hs := goodAgg_small hg
      refine Ev.bind (impl_aggBytes_ev _ _ _ _ _ _ (by have := hg.2.1; omega) hs) ?_
      have hbb : Bytes (aggB (rd L 0) (rd L 1) (rd L 2) (rd L 3) (L.drop 4) (rd l 0 == 1)) := aggB_bytes _ _ _ _ _ _
      refine Ev.bind (Ev_some (by unfold bytes_Equal.f; rw [strOfNums_eq _ _ hbb hb])) ?_
      by_cases he : aggB (rd L 0) (rd L 1) (rd L 2) (rd L 3) (L.drop 4) (rd l 0 == 1) = l
      · simp only [decide_eq_true he, if_true]
        rw [if_pos ⟨hg, he⟩]
        exact Ev.now _
      · simp only [decide_eq_false he, Bool.false_eq_true, if_false]
        rw [if_neg (fun h => he h.2)]
        exact Ev.now _
    · simp only [decide_eq_false hg, Bool.false_eq_true, if_false]
      rw [if_neg (fun h => hg h.1)]
      exact Ev.now _
/-- what is read is what is written: where nothing is left over -/
theorem agg_bytes_iff {l : List Int} (hb : Bytes l) (hl1 : 0 < l.length) {L : List Int} {b : Nat} (h : dnums l 12 [] 1 = some (L, b)) :
    aggB (rd L 0) (rd L 1) (rd L 2) (rd L 3) (L.drop 4) (rd l 0 == 1) = l ↔ rd l 0 ≤ 1 ∧ ¬ (b : Int) < (l.length : Int) := by
  obtain ⟨xs, h1, h2, _, h4, h5⟩ := dnums_split hb 12 [] 1 L b (by omega) h
  rw [List.nil_append] at h1
  have hL : L.length = 12 := by rw [h1]; simpa using h2
  unfold aggB
  rw [list12 hL, h1, putAll_zag]
  have h0 := hb.rd 0
  match l, hl1 with
  | c :: t, _ =>
    have hc : rd (c :: t) 0 = c := rfl
    rw [hc] at h0 ⊢
    have h6 : t = xs.flatMap putVar ++ (c :: t).drop b := by simpa using h4
    constructor
    · intro he
      injection he with e1 e2
      have hlen := congrArg List.length h6
      rw [← e2, List.length_append, List.length_drop] at hlen
      refine ⟨?_, ?_⟩
      · by_cases h : (c == 1) = true
        · have : c = 1 := by simpa using h
          omega
        · rw [if_neg h] at e1; omega
      · have hlt := congrArg List.length e2
        simp only [List.length_cons] at hlen h5 ⊢
        omega
    · rintro ⟨hc1, hbl⟩
      have hd : (c :: t).drop b = [] := List.drop_eq_nil_of_le (by omega)
      rw [hd, List.append_nil] at h6
      rw [← h6]
      congr 1
      by_cases h : c = 1
      · subst h; rfl
      · rw [if_neg (by simpa using h)]; omega
theorem spec_ReadAgg_ev (l : List Int) (hb : Bytes l) (hl : l.length ≤ 1048576) (hl1 : 0 < l.length) : Ev (fun k => spec_ReadAgg.f k l) (readAggR l) := by
  unfold spec_ReadAgg.f
  simp only [if_neg (show ¬ l.length = 0 by omega)]
  have hne : rd l 0 > 1 → readAggR l = zeroAgg := by
    intro hc
    unfold readAggR
    cases hd : dnums l 12 [] 1 with
    | none => rfl
    | some p =>
      obtain ⟨L, b⟩ := p
      show (if _ then _ else _) = _
      rw [if_neg (fun h => by have := ((agg_bytes_iff hb hl1 hd).1 h.2).1; omega)]
  by_cases hc : rd l 0 > 1
  · simp only [decide_eq_true hc, if_true]
    rw [hne hc]
    exact Ev.now _
  · simp only [decide_eq_false hc, Bool.false_eq_true, if_false]
    refine Ev.bind (spec_l_ev l hb (by omega) 12 [] 1 (by omega)) ?_
    cases hd : snums l 12 [] 1 with
    | none =>
      simp only [Option.map_none, Option.elim_none]
      have : readAggR l = zeroAgg := by
        unfold readAggR
        cases hd2 : dnums l 12 [] 1 with
        | none => rfl
        | some p =>
          obtain ⟨L, b⟩ := p
          show (if _ then _ else _) = _
          by_cases hg : goodAgg (rd L 0) (rd L 1) (rd L 2) (rd L 3) (L.drop 4) (rd l 0 == 1)
          · exfalso
            have hs := goodAgg_small hg
            obtain ⟨xs, h1, h2, _⟩ := dnums_split hb 12 [] 1 L b (by omega) hd2
            have hL : L.length = 12 := by rw [h1]; simpa using h2
            rw [list12 hL] at hs
            have := of_dnums hb 12 [] 1 L b (by omega) (by simpa using hs) hd2
            rw [hd] at this
            cases this
          · rw [if_neg (fun h => hg h.1)]
      rw [this]
      exact Ev.now _
    | some p =>
      obtain ⟨L, b⟩ := p
      have hd2 := snums_of hb 12 [] 1 L b (by omega) hd
      simp only [Option.map_some, Option.elim_some]
      unfold spec_ReadAgg.g
      have hiff := agg_bytes_iff hb hl1 hd2
      have hR : readAggR l = if goodAgg (rd L 0) (rd L 1) (rd L 2) (rd L 3) (L.drop 4) (rd l 0 == 1) ∧ aggB (rd L 0) (rd L 1) (rd L 2) (rd L 3) (L.drop 4) (rd l 0 == 1) = l then (rd L 0, rd L 1, rd L 2, rd L 3, L.drop 4, (rd l 0 == 1), true) else zeroAgg := by
        unfold readAggR
        rw [hd2]
      rw [hR]
      by_cases hbl : (b : Int) < (l.length : Int)
      · simp only [decide_eq_true hbl, if_true]
        rw [if_neg (fun h => (hiff.1 h.2).2 hbl)]
        exact Ev.now _
      · simp only [decide_eq_false hbl, Bool.false_eq_true, if_false]
        refine Ev.bind (spec_GoodAgg_ev _ _ _ _ _ _) ?_
        by_cases hg : goodAgg (rd L 0) (rd L 1) (rd L 2) (rd L 3) (L.drop 4) (rd l 0 == 1)
        · simp only [decide_eq_true hg, if_true]
          rw [if_pos ⟨hg, hiff.2 ⟨by omega, hbl⟩⟩]
          exact Ev.now _
        · simp only [decide_eq_false hg, Bool.false_eq_true, if_false]
          rw [if_neg (fun h => hg h.1)]
          exact Ev.now _
theorem both_ReadAgg (l : List Int) (hb : Bytes l) (hl : l.length ≤ 1048576) : ∃ c s mn mx h f ok, h.length ≤ 1048576 ∧ Ev (fun k => spec_ReadAgg.f k l) (c, s, mn, mx, h, f, ok) ∧ Ev (fun k => impl_ReadAgg.f k l) (c, s, mn, mx, h, f, ok) := by
  by_cases h0 : l.length = 0
  · refine ⟨0, 0, 0, 0, [], false, false, by simp, ?_, ?_⟩
    · unfold spec_ReadAgg.f; simp only [if_pos h0]; exact Ev.now _
    · unfold impl_ReadAgg.f; simp only [if_pos h0]; exact Ev.now _
  · obtain ⟨⟨c, s, mn, mx, h, f, ok⟩, hR⟩ : ∃ r, readAggR l = r := ⟨_, rfl⟩
    refine ⟨c, s, mn, mx, h, f, ok, ?_, hR ▸ spec_ReadAgg_ev l hb hl (by omega), hR ▸ impl_ReadAgg_ev l hb hl (by omega)⟩
    unfold readAggR at hR
    cases hd : dnums l 12 [] 1 with
    | none => rw [hd] at hR; injection hR with _ hR; injection hR with _ hR; injection hR with _ hR; injection hR with _ hR; injection hR with hR _; rw [← hR]; simp
    | some p =>
      obtain ⟨L, b⟩ := p
      rw [hd] at hR
      simp only at hR
      obtain ⟨xs, h1, h2, _⟩ := dnums_split hb 12 [] 1 L b (by omega) hd
      have hL : L.length = 12 := by rw [h1]; simpa using h2
      split at hR
      · injection hR with _ hR; injection hR with _ hR; injection hR with _ hR; injection hR with _ hR; injection hR with hR _; rw [← hR, List.length_drop]; omega
      · injection hR with _ hR; injection hR with _ hR; injection hR with _ hR; injection hR with _ hR; injection hR with hR _; rw [← hR]; simp
theorem im_eq : ∀ (n : Nat) (a : Int), laws_markAgg.im a n = imarkedFrom a n
  | 0, _ => rfl
  | n + 1, a => by simp only [laws_markAgg.im, imarkedFrom, im_eq n]
theorem FnExactReadAgg : laws_FnExactReadAgg.Pure := by
  intro l h3
  have hb := Bytes.wf h3.2
  refine Ev.rounds ?_
  unfold laws_FnExactReadAgg.f
  by_cases hbig : 1048576 < (l.length : Int)
  · simp only [if_pos hbig]; exact Ev.now _
  simp only [if_neg hbig]
  obtain ⟨c, s, mn, mx, h, f, ok, hh, hs, hi⟩ := both_ReadAgg l hb (by omega)
  refine Ev.bind (toByteS_ev l (by omega)) ?_
  refine Ev.bind hs ?_
  refine Ev.bind (toByteS_ev l (by omega)) ?_
  refine Ev.bind hi ?_
  refine Ev.bind (eqAgg_same c s mn mx h f hh) ?_
  refine Ev.bind (toByteS_ev l (by omega)) ?_
  refine Ev.bind (eqByteS_same _ _ (by omega) rfl) ?_
  refine Ev.bind (markByteS_ev _ 1 (by omega) (by omega) (by omega)) ?_
  refine Ev.bind (eqAgg_same c s mn mx h f hh) ?_
  refine Ev.bind (Ev_some (show laws_markAgg.f c s mn mx h f 1 = some (1 + (h.length : Int), imarkedFrom 1 h.length) by unfold laws_markAgg.f; rw [if_pos ⟨hh, by decide, by decide⟩, im_eq])) ?_
  refine Ev.bind (heldAgg_ev c s mn mx h.length f hh) ?_
  refine Ev.bind (toByteS_ev l (by omega)) ?_
  refine Ev.bind hi ?_
  refine Ev.bind (eqAgg_same c s mn mx h f hh) ?_
  refine Ev.bind (heldAgg_ev c s mn mx h.length f hh) ?_
  split
  · exact Ev.now _
  · rename_i hn
    exfalso
    apply hn
    simp
    omega
end Go.Proofs.Ytncnfkcnimfbmaa.Pure
