/- The law FnExactBoundsOf answers true, for all bytes. -/
import Derived.Test.YtllmlnagihlokaaPFnExactBoundsOfx21
set_option linter.unusedVariables false
set_option linter.unusedSimpArgs false
namespace Go.Proofs.Ytllmlnagihlokaa.Pure
open Go.RowKit Go.Proofs.Ytllmlnagihlokaa.PFnExactBoundsOf Go.Proofs.YtllmlnagihlokaaW Go.Proofs.YtllmlnagihlokaaW.PrintWords Go.Proofs.YtllmlnagihlokaaW.PrintLast Go.Proofs.YtllmlnagihlokaaW.PrintMore
theorem Ev_succ {α : Type} {g : Nat → Option α} {r : α} (h : Ev (fun k => g (k + 1)) r) : Ev g r := Ev.step (fun _ => rfl) h
theorem Ev_some {α : Type} {o : Option α} {r : α} (h : o = some r) : Ev (fun _ => o) r := ⟨0, fun _ _ => h⟩
theorem Ev_cast {α : Type} {g : Nat → Option α} {r q : α} (h : Ev g r) (e : r = q) : Ev g q := e ▸ h
theorem w64 {n : Int} (h : -9223372036854775808 ≤ n) (h' : n ≤ 9223372036854775807) : wrap64 n = n := by unfold wrap64; omega
theorem wf_u8 {n : Int} (h : (Lit.int .u8 n).wf = true) : 0 ≤ n ∧ n ≤ 255 := by
  simp only [Lit.wf, IntKind.min, IntKind.max, IntKind.signed, IntKind.bits, Bool.and_eq_true, decide_eq_true_eq, if_true] at h
  simp at h
  omega
theorem wrap_u64 (n : Int) : IntKind.u64.wrap n = n % 18446744073709551616 := by simp [IntKind.wrap, IntKind.bits, IntKind.signed]
theorem wrap_u32 (n : Int) : IntKind.u32.wrap n = n % 4294967296 := by simp [IntKind.wrap, IntKind.bits, IntKind.signed]
/-- A list of bytes. -/
def Bytes (l : List Int) : Prop := ∀ x ∈ l, 0 ≤ x ∧ x ≤ 255
theorem Bytes.wf {l : List Int} (h : ∀ x ∈ l, (Lit.int .u8 x).wf = true) : Bytes l := fun x hx => wf_u8 (h x hx)
theorem Bytes.nil : Bytes [] := fun x hx => by cases hx
theorem Bytes.app {a b : List Int} (h : Bytes a) (k : Bytes b) : Bytes (a ++ b) := fun x hx => by
  rcases List.mem_append.1 hx with h' | h'
  · exact h x h'
  · exact k x h'
theorem Bytes.one {x : Int} (h : 0 ≤ x) (h' : x ≤ 255) : Bytes [x] := fun y hy => (List.mem_singleton.1 hy) ▸ ⟨h, h'⟩
theorem Bytes.sub {a b : List Int} (h : Bytes a) (k : ∀ x ∈ b, x ∈ a) : Bytes b := fun x hx => h x (k x hx)
theorem Bytes.take {a : List Int} (h : Bytes a) (n : Nat) : Bytes (a.take n) := h.sub fun _ hx => List.mem_of_mem_take hx
theorem Bytes.drop {a : List Int} (h : Bytes a) (n : Nat) : Bytes (a.drop n) := h.sub fun _ hx => List.mem_of_mem_drop hx
theorem rd_lt {l : List Int} {i : Nat} (h : i < l.length) : rd l (i : Int) = l[i] := by simp [rd, h]
theorem Bytes.rd {l : List Int} (h : Bytes l) (i : Int) : 0 ≤ rd l i ∧ rd l i ≤ 255 := by
  unfold PrintWords.rd
  by_cases hi : i.toNat < l.length
  · rw [List.getD_eq_getElem?_getD, List.getElem?_eq_getElem hi]; exact h _ (List.getElem_mem hi)
  · rw [List.getD_eq_getElem?_getD, List.getElem?_eq_none (by omega)]; simp
theorem drop_cons {α : Type} {l : List α} {i : Nat} (h : i < l.length) : l.drop i = l[i] :: l.drop (i + 1) := List.drop_eq_getElem_cons h
theorem within_eq (a b c : Int) : impl_within.f a b c = some (decide (b ≤ a ∧ a ≤ c)) := by
  unfold impl_within.f
  by_cases h : a ≥ b
  · rw [if_pos h]; simp; intro; omega
  · rw [if_neg h]; simp; intro; omega
theorem l1In_eq (a b c : Int) : spec_l1In.f a b c = some (decide (b ≤ a ∧ a ≤ c)) := by
  unfold spec_l1In.f
  by_cases h : a ≥ b
  · rw [if_pos h]; simp; intro; omega
  · rw [if_neg h]; simp; intro; omega
theorem l4Value_eq (v : Int) : spec_l4Value.f v = some (decide (-1000000000 ≤ v ∧ v ≤ 1000000000)) := by
  unfold spec_l4Value.f
  rw [l1In_eq]; rfl
theorem isValue_eq (v : Int) : impl_isValue.f v = some (decide (-1000000000 ≤ v ∧ v ≤ 1000000000)) := by
  unfold impl_isValue.f
  rw [within_eq]; rfl
def sum8 : List Int → Int
  | [] => 0
  | x :: t => x + sum8 t
def histOk (h : List Int) : Prop := ∀ x ∈ h, 0 ≤ x ∧ x ≤ 1000000000
instance (h : List Int) : Decidable (histOk h) := inferInstanceAs (Decidable (∀ x ∈ h, 0 ≤ x ∧ x ≤ 1000000000))
theorem histOk_cons (a : Int) (t : List Int) : histOk (a :: t) ↔ (0 ≤ a ∧ a ≤ 1000000000) ∧ histOk t := by
  unfold histOk; simp
def valueOk (v : Int) : Prop := -1000000000 ≤ v ∧ v ≤ 1000000000
instance (v : Int) : Decidable (valueOk v) := inferInstanceAs (Decidable (_ ∧ _))
/-- What is asked behind the histogram; z: all of it together. -/
def aggTail (c s mn mx : Int) (f : Bool) (z : Int) : Prop :=
  (c = 0 ∧ z = 0 ∧ mn = 0 ∧ mx = 0 ∧ s = 0 ∧ f = false) ∨
  (c ≠ 0 ∧ valueOk mn ∧ valueOk mx ∧ mn ≤ mx ∧ ((f = true ∧ s = 0) ∨ (f = false ∧ z = c ∧ -1000000000 * c ≤ s ∧ s ≤ 1000000000 * c)))
def goodAgg (c s mn mx : Int) (h : List Int) (f : Bool) : Prop := (0 ≤ c ∧ c ≤ 1000000000) ∧ h.length = 8 ∧ histOk h ∧ aggTail c s mn mx f (sum8 h)
instance (c s mn mx : Int) (f : Bool) (z : Int) : Decidable (aggTail c s mn mx f z) := inferInstanceAs (Decidable (_ ∨ _))
instance (c s mn mx : Int) (h : List Int) (f : Bool) : Decidable (goodAgg c s mn mx h f) := inferInstanceAs (Decidable (_ ∧ _))
theorem aggTail_pos {c s mn mx : Int} {f : Bool} {z : Int} (e0 : c ≠ 0) : aggTail c s mn mx f z ↔ (valueOk mn ∧ valueOk mx ∧ mn ≤ mx ∧ ((f = true ∧ s = 0) ∨ (f = false ∧ z = c ∧ -1000000000 * c ≤ s ∧ s ≤ 1000000000 * c))) := by
  constructor
  · intro h
    rcases h with h | h
    · exact absurd h.1 e0
    · exact h.2
  · intro h
    exact .inr ⟨e0, h⟩
theorem spec_GoodAgg_l0 (c s mn mx : Int) (h : List Int) (f : Bool) (h8 : h.length = 8) (R : Int → Bool) (fin : ∀ z : Int, 0 ≤ z → z ≤ 8000000000 → Ev (fun k => spec_GoodAgg.l0 k z h (h.length : Int) (8 : Int) c s mn mx h f) (R z)) :
    ∀ (d i : Nat) (z : Int), 8 - i = d → i ≤ 8 → 0 ≤ z → z ≤ 1000000000 * i → Ev (fun k => spec_GoodAgg.l0 k z h (h.length : Int) (i : Int) c s mn mx h f) (if histOk (h.drop i) then R (z + sum8 (h.drop i)) else false) := by
  intro d
  induction d with
  | zero =>
    intro i z hd hi h0 h1
    obtain rfl : i = 8 := by omega
    rw [List.drop_eq_nil_of_le (by omega), if_pos (show histOk [] from fun x hx => by cases hx)]
    simp only [sum8, Int.add_zero]
    exact fin z h0 (by omega)
  | succ d ih =>
    intro i z hd hi h0 h1
    refine Ev_succ ?_
    simp only [spec_GoodAgg.l0]
    simp only [if_pos (show (i : Int) < (h.length : Int) by omega), if_pos (show 0 ≤ (i : Int) by omega)]
    rw [rd_lt (by omega), drop_cons (l := h) (i := i) (by omega)]
    refine Ev.bind (Ev_some (l1In_eq _ _ _)) ?_
    by_cases hx : 0 ≤ h[i]'(by omega) ∧ h[i]'(by omega) ≤ 1000000000
    · rw [decide_eq_true hx]
      simp only [if_true]
      rw [w64 (n := (i : Int) + 1) (by omega) (by omega), w64 (by omega) (by omega)]
      refine Ev_cast (ih (i + 1) _ (by omega) (by omega) (by omega) (by omega)) ?_
      by_cases hr : histOk (h.drop (i + 1))
      · rw [if_pos hr, if_pos ((histOk_cons _ _).2 ⟨hx, hr⟩)]
        simp only [sum8]
        rw [Int.add_assoc]
      · rw [if_neg hr, if_neg (fun hh => hr ((histOk_cons _ _).1 hh).2)]
    · rw [decide_eq_false hx, if_neg (fun hh => hx ((histOk_cons _ _).1 hh).1)]
      simp only [Bool.false_eq_true, if_false]
      exact Ev.now _
theorem spec_GoodAgg_fin (c s mn mx : Int) (h : List Int) (f : Bool) (h8 : h.length = 8) (hc : 0 ≤ c ∧ c ≤ 1000000000) (z : Int) (h0 : 0 ≤ z) (h1 : z ≤ 8000000000) :
    Ev (fun k => spec_GoodAgg.l0 k z h (h.length : Int) (8 : Int) c s mn mx h f) (decide (aggTail c s mn mx f z)) := by
  refine Ev_succ ?_
  simp only [spec_GoodAgg.l0]
  simp only [if_neg (show ¬ (8 : Int) < (h.length : Int) by omega)]
  by_cases e0 : c = 0
  · simp only [if_pos e0]
    by_cases e1 : z = 0
    · simp only [if_pos e1]
      by_cases e2 : mn = 0
      · simp only [if_pos e2]
        by_cases e3 : mx = 0
        · simp only [if_pos e3]
          by_cases e4 : s = 0
          · simp only [if_pos e4]
            refine Ev_cast (Ev.now _) ?_
            cases f <;> simp [aggTail, e0, e1, e2, e3, e4]
          · simp only [if_neg e4]
            exact Ev_cast (Ev.now _) (by simp [aggTail, e0, e4])
        · simp only [if_neg e3]
          exact Ev_cast (Ev.now _) (by simp [aggTail, e0, e3])
      · simp only [if_neg e2]
        exact Ev_cast (Ev.now _) (by simp [aggTail, e0, e2])
    · simp only [if_neg e1]
      exact Ev_cast (Ev.now _) (by simp [aggTail, e0, e1])
  · simp only [if_neg e0]
    have bad : ∀ P : Prop, ¬ P → (aggTail c s mn mx f z → P) → Ev (fun k => spec_GoodAgg.j2 k z true c s mn mx h f) (decide (aggTail c s mn mx f z)) := by
      intro P hP hh
      refine Ev_succ ?_
      simp only [spec_GoodAgg.j2, if_true]
      exact Ev_cast (Ev.now _) (decide_eq_false (fun ht => hP (hh ht))).symm
    refine Ev.bind (Ev_some (l4Value_eq _)) ?_
    by_cases v1 : -1000000000 ≤ mn ∧ mn ≤ 1000000000
    · rw [decide_eq_true v1]
      simp only [if_true]
      refine Ev.bind (Ev_some (l4Value_eq _)) ?_
      by_cases v2 : -1000000000 ≤ mx ∧ mx ≤ 1000000000
      · rw [decide_eq_true v2]
        simp only [if_true]
        by_cases v3 : mn > mx
        · rw [decide_eq_true v3]
          exact bad (mn ≤ mx) (by omega) (fun hh => ((aggTail_pos e0).1 hh).2.2.1)
        · rw [decide_eq_false v3]
          refine Ev_succ ?_
          simp only [spec_GoodAgg.j2, Bool.false_eq_true, if_false]
          cases f with
          | true =>
            simp only [if_true]
            refine Ev_cast (Ev.now _) ?_
            rw [Bool.eq_iff_iff]
            simp only [beq_iff_eq, decide_eq_true_eq]
            rw [aggTail_pos e0]
            constructor
            · intro hs
              exact ⟨v1, v2, by omega, .inl ⟨rfl, hs⟩⟩
            · intro hh
              rcases hh.2.2.2 with hz | hz
              · exact hz.2
              · cases hz.1
          | false =>
            simp only [Bool.false_eq_true, if_false]
            by_cases e5 : z = c
            · simp only [if_pos e5]
              refine Ev.bind (Ev_some (l1In_eq _ _ _)) ?_
              rw [w64 (by omega) (by omega), w64 (by omega) (by omega)]
              refine Ev_cast (Ev.now _) ?_
              rw [decide_eq_decide, aggTail_pos e0]
              constructor
              · intro hs
                exact ⟨v1, v2, by omega, .inr ⟨rfl, e5, hs.1, hs.2⟩⟩
              · intro hh
                rcases hh.2.2.2 with hz | hz
                · cases hz.1
                · exact hz.2.2
            · simp only [if_neg e5]
              refine Ev_cast (Ev.now _) (decide_eq_false ?_).symm
              intro hh
              rcases ((aggTail_pos e0).1 hh).2.2.2 with hz | hz
              · cases hz.1
              · exact e5 hz.2.1
      · rw [decide_eq_false v2]
        simp only [Bool.false_eq_true, if_false]
        exact bad (valueOk mx) v2 (fun hh => ((aggTail_pos e0).1 hh).2.1)
    · rw [decide_eq_false v1]
      simp only [Bool.false_eq_true, if_false]
      exact bad (valueOk mn) v1 (fun hh => ((aggTail_pos e0).1 hh).1)
theorem spec_GoodAgg_ev (c s mn mx : Int) (h : List Int) (f : Bool) : Ev (fun k => spec_GoodAgg.f k c s mn mx h f) (decide (goodAgg c s mn mx h f)) := by
  unfold spec_GoodAgg.f
  have bad : ¬ goodAgg c s mn mx h f → Ev (fun k => spec_GoodAgg.j0 k true c s mn mx h f) (decide (goodAgg c s mn mx h f)) := by
    intro hn
    refine Ev_succ ?_
    simp only [spec_GoodAgg.j0, if_true]
    exact Ev_cast (Ev.now _) (decide_eq_false hn).symm
  refine Ev.bind (Ev_some (l1In_eq _ _ _)) ?_
  by_cases hc : 0 ≤ c ∧ c ≤ 1000000000
  · rw [decide_eq_true hc]
    simp only [if_true]
    by_cases h8 : h.length = 8
    · rw [show (((h.length : Int)) != 8) = false by simp [h8]]
      refine Ev_succ ?_
      simp only [spec_GoodAgg.j0, Bool.false_eq_true, if_false]
      refine Ev_cast (spec_GoodAgg_l0 c s mn mx h f h8 _ (fun z h0 h1 => spec_GoodAgg_fin c s mn mx h f h8 hc z h0 h1) 8 0 0 (by omega) (by omega) (by omega) (by omega)) ?_
      rw [List.drop_zero, Int.zero_add]
      by_cases hh : histOk h
      · rw [if_pos hh, decide_eq_decide]
        exact ⟨fun ht => ⟨hc, h8, hh, ht⟩, fun hg => hg.2.2.2⟩
      · rw [if_neg hh]
        exact (decide_eq_false (fun hg => hh hg.2.2.1)).symm
    · rw [show (((h.length : Int)) != 8) = true by simp; omega]
      exact bad (fun hg => h8 hg.2.1)
  · rw [decide_eq_false hc]
    simp only [Bool.false_eq_true, if_false]
    exact bad (fun hg => hc hg.1)
theorem impl_GoodAgg_l0 (c s mn mx : Int) (h : List Int) (f : Bool) (h8 : h.length = 8) (R : Int → Bool) (fin : ∀ z : Int, 0 ≤ z → z ≤ 8000000000 → Ev (fun k => impl_GoodAgg.l0 k z h (h.length : Int) (8 : Int) c s mn mx h f) (R z)) :
    ∀ (d i : Nat) (z : Int), 8 - i = d → i ≤ 8 → 0 ≤ z → z ≤ 1000000000 * i → Ev (fun k => impl_GoodAgg.l0 k z h (h.length : Int) (i : Int) c s mn mx h f) (if histOk (h.drop i) then R (z + sum8 (h.drop i)) else false) := by
  intro d
  induction d with
  | zero =>
    intro i z hd hi h0 h1
    obtain rfl : i = 8 := by omega
    rw [List.drop_eq_nil_of_le (by omega), if_pos (show histOk [] from fun x hx => by cases hx)]
    simp only [sum8, Int.add_zero]
    exact fin z h0 (by omega)
  | succ d ih =>
    intro i z hd hi h0 h1
    refine Ev_succ ?_
    simp only [impl_GoodAgg.l0]
    simp only [if_pos (show (i : Int) < (h.length : Int) by omega), if_pos (show 0 ≤ (i : Int) by omega)]
    rw [rd_lt (by omega), drop_cons (l := h) (i := i) (by omega)]
    refine Ev.bind (Ev_some (within_eq _ _ _)) ?_
    by_cases hx : 0 ≤ h[i]'(by omega) ∧ h[i]'(by omega) ≤ 1000000000
    · rw [decide_eq_true hx]
      simp only [if_true]
      rw [w64 (n := (i : Int) + 1) (by omega) (by omega), w64 (by omega) (by omega)]
      refine Ev_cast (ih (i + 1) _ (by omega) (by omega) (by omega) (by omega)) ?_
      by_cases hr : histOk (h.drop (i + 1))
      · rw [if_pos hr, if_pos ((histOk_cons _ _).2 ⟨hx, hr⟩)]
        simp only [sum8]
        rw [Int.add_assoc]
      · rw [if_neg hr, if_neg (fun hh => hr ((histOk_cons _ _).1 hh).2)]
    · rw [decide_eq_false hx, if_neg (fun hh => hx ((histOk_cons _ _).1 hh).1)]
      simp only [Bool.false_eq_true, if_false]
      exact Ev.now _
theorem impl_GoodAgg_j3 (c s mn mx : Int) (h : List Int) (f : Bool) (z : Int) (b : Bool) (hb : b = true ↔ ¬ ((f = true ∧ s = 0) ∨ (f = false ∧ z = c ∧ -1000000000 * c ≤ s ∧ s ≤ 1000000000 * c))) :
    Ev (fun k => impl_GoodAgg.j3 k z b c s mn mx h f) (decide (aggTail c s mn mx f z)) := by
  refine Ev_succ ?_
  simp only [impl_GoodAgg.j3]
  cases b with
  | true =>
    simp only [if_true]
    refine Ev_cast (Ev.now _) (decide_eq_false ?_).symm
    have hn := hb.1 rfl
    rintro (hh | hh)
    · exact hn (.inr ⟨hh.2.2.2.2.2, by omega, by omega, by omega⟩)
    · exact hn hh.2.2.2.2
  | false =>
    have hy : (f = true ∧ s = 0) ∨ (f = false ∧ z = c ∧ -1000000000 * c ≤ s ∧ s ≤ 1000000000 * c) := by
      by_cases hy : (f = true ∧ s = 0) ∨ (f = false ∧ z = c ∧ -1000000000 * c ≤ s ∧ s ≤ 1000000000 * c)
      · exact hy
      · exact absurd (hb.2 hy) (by simp)
    simp only [Bool.false_eq_true, if_false]
    by_cases e0 : c = 0
    · simp only [if_pos e0]
      by_cases e2 : mn = 0
      · simp only [if_pos e2]
        by_cases e3 : mx = 0
        · simp only [if_pos e3]
          by_cases e1 : z = 0
          · simp only [if_pos e1]
            refine Ev_cast (Ev.now _) ?_
            rw [Bool.eq_iff_iff, decide_eq_true_eq, Bool.not_eq_true']
            refine ⟨fun hf => .inl ⟨e0, e1, e2, e3, ?_, hf⟩, ?_⟩
            · rcases hy with hy | hy
              · rw [hf] at hy; cases hy.1
              · omega
            · rintro (hh | hh)
              · exact hh.2.2.2.2.2
              · exact absurd e0 hh.1
          · simp only [if_neg e1]
            exact Ev_cast (Ev.now _) (by simp [aggTail, e0, e1])
        · simp only [if_neg e3]
          exact Ev_cast (Ev.now _) (by simp [aggTail, e0, e3])
      · simp only [if_neg e2]
        exact Ev_cast (Ev.now _) (by simp [aggTail, e0, e2])
    · simp only [if_neg e0]
      refine Ev.bind (Ev_some (isValue_eq _)) ?_
      by_cases v1 : -1000000000 ≤ mn ∧ mn ≤ 1000000000
      · rw [decide_eq_true v1]
        simp only [if_true]
        refine Ev.bind (Ev_some (isValue_eq _)) ?_
        by_cases v2 : -1000000000 ≤ mx ∧ mx ≤ 1000000000
        · rw [decide_eq_true v2]
          simp only [if_true]
          refine Ev_cast (Ev.now _) ?_
          rw [decide_eq_decide]
          rw [aggTail_pos e0]
          exact ⟨fun hm => ⟨v1, v2, hm, hy⟩, fun hh => hh.2.2.1⟩
        · rw [decide_eq_false v2]
          simp only [Bool.false_eq_true, if_false]
          exact Ev_cast (Ev.now _) (decide_eq_false (fun hh => v2 ((aggTail_pos e0).1 hh).2.1)).symm
      · rw [decide_eq_false v1]
        simp only [Bool.false_eq_true, if_false]
        exact Ev_cast (Ev.now _) (decide_eq_false (fun hh => v1 ((aggTail_pos e0).1 hh).1)).symm
theorem impl_GoodAgg_j2 (c s mn mx : Int) (h : List Int) (f : Bool) (hc : 0 ≤ c ∧ c ≤ 1000000000) (z : Int) (b : Bool) (hb : b = true ↔ (f = true ∧ s ≠ 0)) :
    Ev (fun k => impl_GoodAgg.j2 k z b c s mn mx h f) (decide (aggTail c s mn mx f z)) := by
  refine Ev_succ ?_
  simp only [impl_GoodAgg.j2]
  cases b with
  | true =>
    simp only [if_true]
    obtain ⟨hf, hs⟩ := hb.1 rfl
    refine Ev_cast (Ev.now _) (decide_eq_false ?_).symm
    rintro (hh | hh)
    · exact hs hh.2.2.2.2.1
    · rcases hh.2.2.2.2 with hz | hz
      · exact hs hz.2
      · rw [hf] at hz; cases hz.1
  | false =>
    have hy : ¬ (f = true ∧ s ≠ 0) := fun hh => by have := hb.2 hh; cases this
    simp only [Bool.false_eq_true, if_false]
    cases f with
    | true =>
      simp only [if_true]
      refine impl_GoodAgg_j3 c s mn mx h true z false ⟨fun hh => (by cases hh), fun hh => ?_⟩
      exact absurd (Or.inl ⟨rfl, Decidable.byContradiction fun hs => hy ⟨rfl, hs⟩⟩) hh
    | false =>
      simp only [Bool.false_eq_true, if_false]
      by_cases e5 : z = c
      · simp only [if_pos e5]
        refine Ev.bind (Ev_some (within_eq _ _ _)) ?_
        rw [w64 (by omega) (by omega), w64 (by omega) (by omega)]
        refine impl_GoodAgg_j3 c s mn mx h false z _ ?_
        rw [Bool.not_eq_true', decide_eq_false_iff_not]
        simp [e5]
      · simp only [if_neg e5]
        refine impl_GoodAgg_j3 c s mn mx h false z true ?_
        simp [e5]
theorem impl_GoodAgg_fin (c s mn mx : Int) (h : List Int) (f : Bool) (h8 : h.length = 8) (hc : 0 ≤ c ∧ c ≤ 1000000000) (z : Int) (h0 : 0 ≤ z) (h1 : z ≤ 8000000000) :
    Ev (fun k => impl_GoodAgg.l0 k z h (h.length : Int) (8 : Int) c s mn mx h f) (decide (aggTail c s mn mx f z)) := by
  refine Ev_succ ?_
  simp only [impl_GoodAgg.l0]
  simp only [if_neg (show ¬ (8 : Int) < (h.length : Int) by omega)]
  cases f with
  | true =>
    simp only [if_true]
    exact impl_GoodAgg_j2 c s mn mx h true hc z _ (by simp)
  | false =>
    simp only [Bool.false_eq_true, if_false]
    exact impl_GoodAgg_j2 c s mn mx h false hc z _ (by simp)
theorem impl_GoodAgg_ev (c s mn mx : Int) (h : List Int) (f : Bool) : Ev (fun k => impl_GoodAgg.f k c s mn mx h f) (decide (goodAgg c s mn mx h f)) := by
  unfold impl_GoodAgg.f
  have bad : ¬ goodAgg c s mn mx h f → Ev (fun k => impl_GoodAgg.j0 k true c s mn mx h f) (decide (goodAgg c s mn mx h f)) := by
    intro hn
    refine Ev_succ ?_
    simp only [impl_GoodAgg.j0, if_true]
    exact Ev_cast (Ev.now _) (decide_eq_false hn).symm
  refine Ev.bind (Ev_some (within_eq _ _ _)) ?_
  by_cases hc : 0 ≤ c ∧ c ≤ 1000000000
  · rw [decide_eq_true hc]
    simp only [if_true]
    by_cases h8 : h.length = 8
    · rw [show (((h.length : Int)) != 8) = false by simp [h8]]
      refine Ev_succ ?_
      simp only [impl_GoodAgg.j0, Bool.false_eq_true, if_false]
      refine Ev_cast (impl_GoodAgg_l0 c s mn mx h f h8 _ (fun z h0 h1 => impl_GoodAgg_fin c s mn mx h f h8 hc z h0 h1) 8 0 0 (by omega) (by omega) (by omega) (by omega)) ?_
      rw [List.drop_zero, Int.zero_add]
      by_cases hh : histOk h
      · rw [if_pos hh, decide_eq_decide]
        exact ⟨fun ht => ⟨hc, h8, hh, ht⟩, fun hg => hg.2.2.2⟩
      · rw [if_neg hh]
        exact (decide_eq_false (fun hg => hh hg.2.2.1)).symm
    · rw [show (((h.length : Int)) != 8) = true by simp; omega]
      exact bad (fun hg => h8 hg.2.1)
  · rw [decide_eq_false hc]
    simp only [Bool.false_eq_true, if_false]
    exact bad (fun hg => hc hg.1)
def zeroAgg (c s mn mx : Int) (h : List Int) (f : Bool) : Prop := c = 0 ∧ s = 0 ∧ mn = 0 ∧ mx = 0 ∧ h.length = 0 ∧ f = false
instance (c s mn mx : Int) (h : List Int) (f : Bool) : Decidable (zeroAgg c s mn mx h f) := inferInstanceAs (Decidable (_ ∧ _))
def goodEntry (key : ByteArray) (seq kind c s mn mx : Int) (h : List Int) (f : Bool) : Prop :=
  (1 ≤ key.size ∧ key.size ≤ 140) ∧ (1 ≤ seq ∧ seq ≤ 1000000000) ∧ ((kind = 2 ∧ zeroAgg c s mn mx h f) ∨ ((kind = 1 ∨ kind = 3) ∧ goodAgg c s mn mx h f))
instance (key : ByteArray) (seq kind c s mn mx : Int) (h : List Int) (f : Bool) : Decidable (goodEntry key seq kind c s mn mx h f) := inferInstanceAs (Decidable (_ ∧ _))
theorem spec_l5Zero_eq (c s mn mx : Int) (h : List Int) (f : Bool) : spec_l5Zero.f c s mn mx h f = some (decide (zeroAgg c s mn mx h f)) := by
  unfold spec_l5Zero.f zeroAgg
  by_cases e0 : c = 0
  · by_cases e1 : s = 0
    · by_cases e2 : mn = 0
      · by_cases e3 : mx = 0
        · by_cases e4 : h.length = 0
          · cases f <;> simp [e0, e1, e2, e3, e4]
          · rw [if_pos e0, if_pos e1, if_pos e2, if_pos e3, if_neg (by omega)]; simp [e4]
        · simp [e0, e1, e2, e3]
      · simp [e0, e1, e2]
    · simp [e0, e1]
  · simp [e0]
theorem spec_GoodEntry_ev (key : ByteArray) (seq kind c s mn mx : Int) (h : List Int) (f : Bool) : Ev (fun k => spec_GoodEntry.f k key seq kind c s mn mx h f) (decide (goodEntry key seq kind c s mn mx h f)) := by
  unfold spec_GoodEntry.f
  have bad : ¬ goodEntry key seq kind c s mn mx h f → Ev (fun k => spec_GoodEntry.j0 k true key seq kind c s mn mx h f) (decide (goodEntry key seq kind c s mn mx h f)) := by
    intro hn
    refine Ev_succ ?_
    simp only [spec_GoodEntry.j0, if_true]
    exact Ev_cast (Ev.now _) (decide_eq_false hn).symm
  refine Ev.bind (Ev_some (l1In_eq _ _ _)) ?_
  by_cases h1 : 1 ≤ (key.size : Int) ∧ (key.size : Int) ≤ 140
  · rw [decide_eq_true h1]
    simp only [if_true]
    refine Ev.bind (Ev_some (l1In_eq _ _ _)) ?_
    by_cases h2 : 1 ≤ seq ∧ seq ≤ 1000000000
    · rw [decide_eq_true h2, Bool.not_true]
      refine Ev_succ ?_
      simp only [spec_GoodEntry.j0, Bool.false_eq_true, if_false]
      have hk : ∀ b : Bool, (b = true ↔ (kind = 1 ∨ kind = 3)) → Ev (fun k => spec_GoodEntry.j1 k kind b key seq kind c s mn mx h f) (decide (goodEntry key seq kind c s mn mx h f)) := by
        intro b hb
        refine Ev_succ ?_
        simp only [spec_GoodEntry.j1]
        cases b with
        | true =>
          have hk := hb.1 rfl
          simp only [if_true]
          refine Ev.bind (spec_GoodAgg_ev c s mn mx h f) ?_
          refine Ev_cast (Ev.now _) ?_
          rw [decide_eq_decide]
          constructor
          · intro hg
            exact ⟨by omega, h2, .inr ⟨hk, hg⟩⟩
          · intro hg
            rcases hg.2.2 with hz | hz
            · omega
            · exact hz.2
        | false =>
          have hk : ¬ (kind = 1 ∨ kind = 3) := fun hh => by have := hb.2 hh; cases this
          simp only [Bool.false_eq_true, if_false]
          by_cases k2 : kind = 2
          · simp only [if_pos k2]
            refine Ev.bind (Ev_some (spec_l5Zero_eq c s mn mx h f)) ?_
            refine Ev_cast (Ev.now _) ?_
            rw [decide_eq_decide]
            constructor
            · intro hg
              exact ⟨by omega, h2, .inl ⟨k2, hg⟩⟩
            · intro hg
              rcases hg.2.2 with hz | hz
              · exact hz.2
              · exact absurd hz.1 hk
          · simp only [if_neg k2]
            refine Ev_cast (Ev.now _) (decide_eq_false ?_).symm
            intro hg
            rcases hg.2.2 with hz | hz
            · exact k2 hz.1
            · exact hk hz.1
      by_cases k1 : kind = 1
      · simp only [if_pos k1]
        exact hk _ (by simp [k1])
      · simp only [if_neg k1]
        exact hk _ (by simp [k1])
    · rw [decide_eq_false h2, Bool.not_false]
      exact bad (fun hg => h2 hg.2.1)
  · rw [decide_eq_false h1]
    simp only [Bool.false_eq_true, if_false]
    exact bad (fun hg => h1 (by have := hg.1; omega))
theorem impl_Agg_isZero_eq (c s mn mx : Int) (h : List Int) (f : Bool) : impl_Agg_isZero.f c s mn mx h f = some (decide (zeroAgg c s mn mx h f)) := by
  unfold impl_Agg_isZero.f zeroAgg
  by_cases e0 : c = 0
  · by_cases e1 : s = 0
    · by_cases e2 : mn = 0
      · by_cases e3 : mx = 0
        · by_cases e4 : h.length = 0
          · cases f <;> simp [e0, e1, e2, e3, e4]
          · rw [if_pos e0, if_pos e1, if_pos e2, if_pos e3, if_neg (by omega)]; simp [e4]
        · simp [e0, e1, e2, e3]
      · simp [e0, e1, e2]
    · simp [e0, e1]
  · simp [e0]
theorem isKeyText_eq (s : ByteArray) : impl_isKeyText.f s = some (decide (1 ≤ s.size ∧ s.size ≤ 140)) := by
  unfold impl_isKeyText.f
  rw [within_eq, Option.bind_some]
  congr 1
  rw [decide_eq_decide]
  omega
theorem impl_GoodEntry_ev (key : ByteArray) (seq kind c s mn mx : Int) (h : List Int) (f : Bool) : Ev (fun k => impl_GoodEntry.f k key seq kind c s mn mx h f) (decide (goodEntry key seq kind c s mn mx h f)) := by
  unfold impl_GoodEntry.f
  have bad : ¬ goodEntry key seq kind c s mn mx h f → Ev (fun k => impl_GoodEntry.j0 k true key seq kind c s mn mx h f) (decide (goodEntry key seq kind c s mn mx h f)) := by
    intro hn
    refine Ev_succ ?_
    simp only [impl_GoodEntry.j0, if_true]
    exact Ev_cast (Ev.now _) (decide_eq_false hn).symm
  refine Ev.bind (Ev_some (isKeyText_eq _)) ?_
  by_cases h1 : 1 ≤ key.size ∧ key.size ≤ 140
  · rw [decide_eq_true h1]
    simp only [if_true]
    refine Ev.bind (Ev_some (within_eq _ _ _)) ?_
    by_cases h2 : 1 ≤ seq ∧ seq ≤ 1000000000
    · rw [decide_eq_true h2, Bool.not_true]
      refine Ev_succ ?_
      simp only [impl_GoodEntry.j0, Bool.false_eq_true, if_false]
      have agg : (kind = 1 ∨ kind = 3) → Ev (fun k => (impl_GoodAgg.f k c s mn mx h f).bind fun t => some t) (decide (goodEntry key seq kind c s mn mx h f)) := by
        intro hk
        refine Ev.bind (impl_GoodAgg_ev c s mn mx h f) ?_
        refine Ev_cast (Ev.now _) ?_
        rw [decide_eq_decide]
        constructor
        · intro hg
          exact ⟨h1, h2, .inr ⟨hk, hg⟩⟩
        · intro hg
          rcases hg.2.2 with hz | hz
          · omega
          · exact hz.2
      by_cases k2 : kind = 2
      · simp only [if_pos k2]
        refine Ev.bind (Ev_some (impl_Agg_isZero_eq c s mn mx h f)) ?_
        refine Ev_cast (Ev.now _) ?_
        rw [decide_eq_decide]
        constructor
        · intro hg
          exact ⟨h1, h2, .inl ⟨k2, hg⟩⟩
        · intro hg
          rcases hg.2.2 with hz | hz
          · exact hz.2
          · omega
      · simp only [if_neg k2]
        by_cases k1 : kind = 1
        · simp only [if_pos k1]; exact agg (.inl k1)
        · simp only [if_neg k1]
          by_cases k3 : kind = 3
          · simp only [if_pos k3]; exact agg (.inr k3)
          · simp only [if_neg k3]
            refine Ev_cast (Ev.now _) (decide_eq_false ?_).symm
            intro hg
            rcases hg.2.2 with hz | hz
            · exact k2 hz.1
            · rcases hz.1 with hz | hz
              · exact k1 hz
              · exact k3 hz
    · rw [decide_eq_false h2, Bool.not_false]
      exact bad (fun hg => h2 hg.2.1)
  · rw [decide_eq_false h1]
    simp only [Bool.false_eq_true, if_false]
    exact bad (fun hg => h1 hg.1)
theorem rd51_lt {l : List S51} {i : Nat} (h : i < l.length) : rd_T51 l (i : Int) = l[i] := by simp [rd_T51, h]
def eBefore (a b : S51) : Bool := decide (Op.bytesLess a.f0.toList b.f0.toList = true ∨ (a.f0.toList = b.f0.toList ∧ b.f1 < a.f1))
def eGood (e : S51) : Bool := decide (goodEntry e.f0 e.f1 e.f2 e.f3.f0 e.f3.f1 e.f3.f2 e.f3.f3 e.f3.f4 e.f3.f5)
def stepOk (m : List S51) (i : Nat) : Bool := eGood (rd_T51 m (i : Int)) && (decide (i = 0) || eBefore (rd_T51 m ((i - 1 : Nat) : Int)) (rd_T51 m (i : Int)))
def okFrom (m : List S51) : Nat → Nat → Bool
  | 0, _ => true
  | d + 1, i => stepOk m i && okFrom m d (i + 1)
def seqsOf (m : List S51) : List Int := m.map (·.f1)
def goodEntries (m : List S51) : Bool := okFrom m m.length 0 && decide ((seqsOf m).Nodup)
theorem less_irrefl (a : List UInt8) : Op.bytesLess a a = false := by
  have := bytesLess_tri a a
  cases h : Op.bytesLess a a
  · rfl
  · rw [h, Bool.true_or] at this; cases this
theorem spec_l5Before_eq (a b : S51) : spec_l5Before.f a.f0 a.f1 a.f2 a.f3.f0 a.f3.f1 a.f3.f2 a.f3.f3 a.f3.f4 a.f3.f5 b.f0 b.f1 b.f2 b.f3.f0 b.f3.f1 b.f3.f2 b.f3.f3 b.f3.f4 b.f3.f5 = some (eBefore a b) := by
  unfold spec_l5Before.f eBefore
  by_cases h1 : Op.bytesLess a.f0.toList b.f0.toList = true
  · rw [if_pos h1, decide_eq_true (.inl h1)]
  · rw [if_neg h1]
    by_cases h2 : a.f0.toList = b.f0.toList
    · rw [if_pos h2]
      congr 1
      rw [decide_eq_decide]
      constructor
      · intro h; exact .inr ⟨h2, h⟩
      · rintro (h | ⟨_, h⟩)
        · exact absurd h h1
        · exact h
    · rw [if_neg h2]
      simp [h1, h2]
def nodFrom (s : List Int) : Nat → Nat → Bool
  | 0, _ => true
  | d + 1, i => !((s.take i).contains (rd s (i : Int))) && nodFrom s d (i + 1)
theorem nodFrom_eq (s : List Int) : ∀ (d i : Nat), s.length - i = d → i ≤ s.length → (decide ((s.take i).Nodup) && nodFrom s d i) = decide s.Nodup := by
  intro d
  induction d with
  | zero =>
    intro i hd hi
    rw [List.take_of_length_le (by omega)]
    simp [nodFrom]
  | succ d ih =>
    intro i hd hi
    have hlt : i < s.length := by omega
    rw [← ih (i + 1) (by omega) (by omega)]
    simp only [nodFrom]
    rw [← Bool.and_assoc, rd_lt hlt]
    congr 1
    rw [List.take_succ_eq_append_getElem hlt]
    rw [Bool.eq_iff_iff]
    simp only [Bool.and_eq_true, decide_eq_true_eq, Bool.not_eq_true', List.nodup_append]
    constructor
    · rintro ⟨h1, h2⟩
      refine ⟨h1, by simp, ?_⟩
      intro x hx y hy e
      rw [List.mem_singleton] at hy
      subst hy; subst e
      have : (s.take i).contains s[i] = true := by rw [List.contains_iff_mem]; exact hx
      rw [this] at h2; cases h2
    · rintro ⟨h1, _, h3⟩
      refine ⟨h1, ?_⟩
      rw [Bool.eq_false_iff]
      intro hc
      rw [List.contains_iff_mem] at hc
      exact h3 _ hc _ (List.mem_singleton.2 rfl) rfl
theorem spec_GoodEntries_nod (s : List Int) : ∀ d i, spec_GoodEntries.nod s d i = nodFrom s d i := by
  intro d
  induction d with
  | zero => intro i; rfl
  | succ d ih => intro i; simp only [spec_GoodEntries.nod, nodFrom, ih]
theorem spec_GoodEntries_fin (m : List S51) (hm : m.length ≤ 1048576) : Ev (fun k => spec_GoodEntries.fin k (seqsOf m)) (decide ((seqsOf m).Nodup)) := by
  unfold spec_GoodEntries.fin
  refine Ev_cast (Ev.now _) ?_
  rw [spec_GoodEntries_nod]
  have := nodFrom_eq (seqsOf m) _ 0 rfl (by omega)
  simp only [List.take_zero] at this
  rw [← this]
  simp
theorem spec_GoodEntries_ok (m : List S51) (i : Nat) : Ev (fun k => spec_GoodEntries.ok k m i) (stepOk m i) := by
  unfold spec_GoodEntries.ok spec_GoodEntries.g
  refine Ev.bind (spec_GoodEntry_ev _ _ _ _ _ _ _ _ _) ?_
  by_cases hg : eGood (rd_T51 m (i : Int)) = true
  · have hg2 := hg
    unfold eGood at hg2
    simp only [if_pos hg2]
    by_cases h0 : i = 0
    · simp only [if_pos h0]
      exact Ev_cast (Ev.now _) (by unfold stepOk; rw [hg, decide_eq_true h0]; rfl)
    · simp only [if_neg h0]
      unfold spec_GoodEntries.bf
      exact Ev_cast (Ev_some (spec_l5Before_eq _ _)) (by unfold stepOk; rw [hg, decide_eq_false h0]; simp)
  · have hg2 := hg
    unfold eGood at hg2
    simp only [if_neg hg2]
    exact Ev_cast (Ev.now _) (by unfold stepOk; rw [Bool.eq_false_iff.mpr hg, Bool.false_and])
theorem spec_GoodEntries_ev (m : List S51) (hm : m.length ≤ 1048576) : Ev (fun k => spec_GoodEntries.f k m) (goodEntries m) := by
  have loop : ∀ (d i : Nat), m.length - i = d → i ≤ m.length → Ev (fun k => spec_GoodEntries.scan k m d i) (okFrom m d i && decide ((seqsOf m).Nodup)) := by
    intro d
    induction d with
    | zero =>
      intro i hd hi
      simp only [spec_GoodEntries.scan, okFrom, Bool.true_and]
      exact spec_GoodEntries_fin m hm
    | succ d ih =>
      intro i hd hi
      simp only [spec_GoodEntries.scan]
      refine Ev.bind (spec_GoodEntries_ok m i) ?_
      by_cases hs : stepOk m i = true
      · simp only [if_pos hs]
        exact Ev_cast (ih (i + 1) (by omega) (by omega)) (by simp only [okFrom, hs, Bool.true_and])
      · simp only [if_neg hs]
        exact Ev_cast (Ev.now _) (by simp only [okFrom, Bool.eq_false_iff.mpr hs, Bool.false_and])
  unfold spec_GoodEntries.f
  simp only [if_pos hm]
  exact loop m.length 0 (by omega) (by omega)
theorem compact_len (t : List Int) (hs : t.Pairwise (· ≤ ·)) : (Lib.compact t).length = t.length ↔ t.Nodup := by
  have hg : ∀ j (hj : j < t.length), t.toArray[j]! = t[j] := fun j hj => by simp [hj]
  have h1 : (Lib.compact t).length = t.length ↔ ∀ j, j < t.length → Lib.keeps t.toArray j = true := by
    unfold Lib.compact Lib.compactUpTo
    rw [List.length_map]
    have := List.length_filter_eq_length_iff (p := Lib.keeps t.toArray) (l := List.range t.length)
    rw [List.length_range] at this
    rw [this]
    simp
  rw [h1, List.Nodup, List.pairwise_iff_getElem]
  rw [List.pairwise_iff_getElem] at hs
  constructor
  · intro h
    have adj : ∀ j (hj : j + 1 < t.length), t[j] < t[j + 1] := by
      intro j hj
      have hk := h (j + 1) hj
      unfold Lib.keeps at hk
      have hk2 := (of_decide_eq_true hk).resolve_left (by omega)
      rw [hg (j + 1) hj, show j + 1 - 1 = j by omega, hg j (by omega)] at hk2
      have := hs j (j + 1) (by omega) hj (by omega)
      omega
    intro i j hi hj hij
    have hj2 : j - 1 + 1 < t.length := by omega
    have a1 := adj (j - 1) hj2
    have e : j - 1 + 1 = j := by omega
    simp only [e] at a1
    by_cases hlt : i < j - 1
    · have := hs i (j - 1) hi (by omega) hlt
      show t[i] ≠ t[j]
      omega
    · have : i = j - 1 := by omega
      subst this
      show t[j - 1] ≠ t[j]
      omega
  · intro h j hj
    unfold Lib.keeps
    refine decide_eq_true ?_
    by_cases h0 : j = 0
    · exact .inl h0
    · right
      rw [hg j hj, hg (j - 1) (by omega)]
      exact fun e => h (j - 1) j (by omega) hj (by omega) e.symm
theorem sorted_compact (s : List Int) : (Lib.compact (s.mergeSort fun x y => decide (x ≤ y))).length = s.length ↔ s.Nodup := by
  have hp := List.mergeSort_perm s (fun x y => decide (x ≤ y))
  have hs : (s.mergeSort fun x y => decide (x ≤ y)).Pairwise (· ≤ ·) := by
    have := List.pairwise_mergeSort (le := fun x y : Int => decide (x ≤ y)) (fun a b c h1 h2 => by simp only [decide_eq_true_eq] at *; omega) (fun a b => by simp only [Bool.or_eq_true, decide_eq_true_eq]; omega) s
    exact this.imp (fun h => by simpa using h)
  rw [← hp.nodup_iff, ← compact_len _ hs, hp.length_eq]
theorem cmpOr2 (a b : Int) : Ev (fun k => cmp_Or_int.f k [a, b]) (if a = 0 then b else a) := by
  unfold cmp_Or_int.f
  refine Ev_succ ?_
  simp only [cmp_Or_int.l0]
  by_cases ha : a = 0
  · subst ha
    simp [rd]
    refine Ev_succ ?_
    simp only [cmp_Or_int.l0]
    by_cases hb : b = 0
    · subst hb
      simp [rd, wrap64]
      refine Ev_succ ?_
      simp only [cmp_Or_int.l0]
      simp
      exact Ev.now _
    · simp [rd, wrap64, hb]
      exact Ev.now _
  · simp [rd, ha]
    exact Ev.now _
def sCmp (a b : List UInt8) : Int := if Op.bytesLess a b = true then -1 else if Op.bytesLess b a = true then 1 else 0
def iCmp (a b : Int) : Int := if a < b then -1 else if a > b then 1 else 0
def eCmp (a b : S51) : Int := if sCmp a.f0.toList b.f0.toList = 0 then iCmp b.f1 a.f1 else sCmp a.f0.toList b.f0.toList
theorem impl_compareEntries_ev (a b : S51) : ∃ c, Ev (fun k => impl_compareEntries.f k a.f0 a.f1 a.f2 a.f3.f0 a.f3.f1 a.f3.f2 a.f3.f3 a.f3.f4 a.f3.f5 b.f0 b.f1 b.f2 b.f3.f0 b.f3.f1 b.f3.f2 b.f3.f3 b.f3.f4 b.f3.f5) c ∧ (c ≥ 0 ↔ eBefore a b = false) := by
  have h1 : cmp_Compare_string.f a.f0 b.f0 = some (sCmp a.f0.toList b.f0.toList) := by
    unfold sCmp cmp_Compare_string.f cmp_isNaN_string.f
    simp only [bne_self_eq_false, Option.bind_some, Bool.false_eq_true, if_false]
    split
    · rfl
    · split <;> rfl
  have h2 : cmp_Compare_int.f b.f1 a.f1 = some (iCmp b.f1 a.f1) := by
    unfold iCmp cmp_Compare_int.f cmp_isNaN_int.f
    simp only [bne_self_eq_false, Option.bind_some, Bool.false_eq_true, if_false]
    split
    · rfl
    · split <;> rfl
  refine ⟨eCmp a b, ?_, ?_⟩
  · unfold impl_compareEntries.f
    refine Ev.bind (Ev_some h1) ?_
    refine Ev.bind (Ev_some h2) ?_
    exact Ev.bind (cmpOr2 _ _) (Ev.now _)
  · unfold eCmp sCmp iCmp
    have tri := bytesLess_tri a.f0.toList b.f0.toList
    unfold eBefore
    rw [decide_eq_false_iff_not]
    by_cases l1 : Op.bytesLess a.f0.toList b.f0.toList = true
    · simp [l1]
    · have l1f := Bool.eq_false_iff.mpr l1
      by_cases l2 : Op.bytesLess b.f0.toList a.f0.toList = true
      · rw [l1f, l2] at tri
        have hne : ¬ a.f0.toList = b.f0.toList := by
          intro e
          rw [e] at tri
          simp at tri
        simp [l1f, l2, hne]
      · have l2f := Bool.eq_false_iff.mpr l2
        rw [l1f, l2f] at tri
        have he : a.f0.toList = b.f0.toList := by simpa using tri
        simp only [l1f, l2f, Bool.false_eq_true, if_false, if_true, he]
        by_cases h : b.f1 < a.f1
        · simp [h, less_irrefl]
        · simp only [h, if_false]
          by_cases h' : b.f1 > a.f1 <;> simp [h', less_irrefl]
theorem impl_GoodEntries_fin (m : List S51) (hm : m.length ≤ 1048576) : Ev (fun k => impl_GoodEntries.fin k (seqsOf m)) (decide ((seqsOf m).Nodup)) := by
  unfold impl_GoodEntries.fin
  have hsl : (seqsOf m).length = m.length := by simp [seqsOf]
  have hml : ((seqsOf m).mergeSort fun x y => decide (x ≤ y)).length = m.length := by rw [List.length_mergeSort, hsl]
  refine Ev.bind (Ev_some (show slices_Sort_int_int.f (seqsOf m) = some _ by unfold slices_Sort_int_int.f; rw [if_pos (by omega)])) ?_
  refine Ev.bind (Ev_some (show slices_Compact_int_int.f _ = some _ by unfold slices_Compact_int_int.f; rw [if_pos (by omega)])) ?_
  refine Ev_cast (Ev.now _) ?_
  have := sorted_compact (seqsOf m)
  rw [Bool.eq_iff_iff, beq_iff_eq, decide_eq_true_eq, ← this]
  omega
theorem impl_GoodEntries_ok (m : List S51) (i : Nat) : Ev (fun k => impl_GoodEntries.ok k m i) (stepOk m i) := by
  unfold impl_GoodEntries.ok impl_GoodEntries.g
  refine Ev.bind (impl_GoodEntry_ev _ _ _ _ _ _ _ _ _) ?_
  by_cases hg : eGood (rd_T51 m (i : Int)) = true
  · have hg2 := hg
    unfold eGood at hg2
    simp only [if_pos hg2]
    by_cases h0 : i = 0
    · simp only [if_pos h0]
      exact Ev_cast (Ev.now _) (by unfold stepOk; rw [hg, decide_eq_true h0]; rfl)
    · simp only [if_neg h0]
      unfold impl_GoodEntries.bf
      obtain ⟨c, hc, hc2⟩ := impl_compareEntries_ev (rd_T51 m ((i - 1 : Nat) : Int)) (rd_T51 m (i : Int))
      refine Ev.bind hc ?_
      refine Ev_cast (Ev.now _) ?_
      unfold stepOk
      rw [hg, decide_eq_false h0]
      cases hb : eBefore (rd_T51 m ((i - 1 : Nat) : Int)) (rd_T51 m (i : Int))
      · have := hc2.2 hb
        simp
        omega
      · have : ¬ c ≥ 0 := fun h => by rw [hc2.1 h] at hb; cases hb
        simp
        omega
  · have hg2 := hg
    unfold eGood at hg2
    simp only [if_neg hg2]
    exact Ev_cast (Ev.now _) (by unfold stepOk; rw [Bool.eq_false_iff.mpr hg, Bool.false_and])
theorem impl_GoodEntries_ev (m : List S51) (hm : m.length ≤ 1048576) : Ev (fun k => impl_GoodEntries.f k m) (goodEntries m) := by
  have loop : ∀ (d i : Nat), m.length - i = d → i ≤ m.length → Ev (fun k => impl_GoodEntries.scan k m d i) (okFrom m d i && decide ((seqsOf m).Nodup)) := by
    intro d
    induction d with
    | zero =>
      intro i hd hi
      simp only [impl_GoodEntries.scan, okFrom, Bool.true_and]
      exact impl_GoodEntries_fin m hm
    | succ d ih =>
      intro i hd hi
      simp only [impl_GoodEntries.scan]
      refine Ev.bind (impl_GoodEntries_ok m i) ?_
      by_cases hs : stepOk m i = true
      · simp only [if_pos hs]
        exact Ev_cast (ih (i + 1) (by omega) (by omega)) (by simp only [okFrom, hs, Bool.true_and])
      · simp only [if_neg hs]
        exact Ev_cast (Ev.now _) (by simp only [okFrom, Bool.eq_false_iff.mpr hs, Bool.false_and])
  unfold impl_GoodEntries.f
  simp only [if_pos hm]
  exact loop m.length 0 (by omega) (by omega)
theorem rdOf_lt {α : Type} {d : α} {l : List α} {i : Nat} (h : i < l.length) : rdOf d l (i : Int) = l[i] := by simp [rdOf, h]
def hashFrom (h : Int) : List Int → Int
  | [] => Go.bits .xor .u32 h (h / 32768)
  | b :: t => hashFrom (((Go.bits .xor .u32 h (b % 4294967296)) * 16777619) % 4294967296) t
def hashOf (s : ByteArray) (seed : Int) : Int := hashFrom ((2166136261 + ((seed % 4294967296) * 40503)) % 4294967296) (bytesOf s)
theorem spec_l6Hash_l0 (s : ByteArray) (hs : s.size ≤ 4611686018427387904) : ∀ (d i : Nat) (h : Int), s.size - i = d → i ≤ s.size → Ev (fun k => spec_l6Hash.l0 k s h (i : Int)) (hashFrom h ((bytesOf s).drop i)) := by
  intro d
  have hl := bytesOf_length s
  induction d with
  | zero =>
    intro i h hd hi
    refine Ev_succ ?_
    simp only [spec_l6Hash.l0]
    simp only [if_neg (show ¬ (i : Int) < (s.size : Int) by omega)]
    rw [List.drop_eq_nil_of_le (by omega)]
    exact Ev.now _
  | succ d ih =>
    intro i h hd hi
    refine Ev_succ ?_
    simp only [spec_l6Hash.l0]
    simp only [if_pos (show (i : Int) < (s.size : Int) by omega), if_pos (show 0 ≤ (i : Int) by omega)]
    rw [← rd_bytesOf, rd_lt (by omega), w64 (by omega) (by omega), drop_cons (l := bytesOf s) (i := i) (by omega)]
    exact ih (i + 1) _ (by omega) (by omega)
theorem spec_l6Hash_ev (s : ByteArray) (hs : s.size ≤ 4611686018427387904) (seed : Int) : Ev (fun k => spec_l6Hash.f k s seed) (hashOf s seed) := by
  unfold spec_l6Hash.f hashOf
  (try rw [show (2166136261 + seed % 4294967296 * 40503 % 4294967296) % 4294967296 = (2166136261 + seed % 4294967296 * 40503) % 4294967296 by omega])
  have := spec_l6Hash_l0 s hs s.size 0 ((2166136261 + seed % 4294967296 * 40503) % 4294967296) (by omega) (by omega)
  simpa using this
theorem impl_hash_l0 (s : ByteArray) (hs : s.size ≤ 4611686018427387904) : ∀ (d i : Nat) (h : Int), s.size - i = d → i ≤ s.size → Ev (fun k => impl_hash.l0 k s h (i : Int)) (hashFrom h ((bytesOf s).drop i)) := by
  intro d
  have hl := bytesOf_length s
  induction d with
  | zero =>
    intro i h hd hi
    refine Ev_succ ?_
    simp only [impl_hash.l0]
    simp only [if_neg (show ¬ (i : Int) < (s.size : Int) by omega)]
    rw [List.drop_eq_nil_of_le (by omega)]
    exact Ev.now _
  | succ d ih =>
    intro i h hd hi
    refine Ev_succ ?_
    simp only [impl_hash.l0]
    simp only [if_pos (show (i : Int) < (s.size : Int) by omega), if_pos (show 0 ≤ (i : Int) by omega)]
    rw [rd_lt (by omega), w64 (by omega) (by omega), drop_cons (l := bytesOf s) (i := i) (by omega)]
    exact ih (i + 1) _ (by omega) (by omega)
theorem impl_hash_ev (s : ByteArray) (hs : s.size ≤ 4611686018427387904) (seed : Int) : Ev (fun k => impl_hash.f k s seed) (hashOf s seed) := by
  unfold impl_hash.f hashOf
  simp only [if_pos (show s.size ≤ 9223372036854775807 by omega)]
  have := impl_hash_l0 s hs s.size 0 ((2166136261 + seed % 4294967296 * 40503) % 4294967296) (by omega) (by omega)
  simpa using this
theorem bits_range32 (op : BinOp) (a b : Int) : 0 ≤ Go.bits op .u32 a b ∧ Go.bits op .u32 a b < 4294967296 := by
  unfold Go.bits
  simp only [wrap_u32]
  omega
theorem hashFrom_range : ∀ (l : List Int) (h : Int), 0 ≤ hashFrom h l ∧ hashFrom h l < 4294967296 := by
  intro l
  induction l with
  | nil => intro h; exact bits_range32 _ _ _
  | cons b t ih => intro h; exact ih _
theorem hashOf_range (s : ByteArray) (seed : Int) : 0 ≤ hashOf s seed ∧ hashOf s seed < 4294967296 := hashFrom_range _ _
def placeAt (h d m : Int) (k : Nat) : Int := ((h + k * d) % 4294967296) % m
def placesFrom (h d m : Int) : Nat → Nat → List Int
  | _, 0 => []
  | k, n + 1 => placeAt h d m k :: placesFrom h d m (k + 1) n
def placesOf (s : ByteArray) (ways : Nat) (bytes : Nat) : List Int := placesFrom (hashOf s 0) (hashOf s 1) (8 * bytes) 0 ways
theorem placesFrom_range (h d m : Int) (hm : 0 < m) : ∀ (n k : Nat), ∀ p ∈ placesFrom h d m k n, 0 ≤ p ∧ p < m := by
  intro n
  induction n with
  | zero => intro k p hp; cases hp
  | succ n ih =>
    intro k p hp
    rcases List.mem_cons.1 hp with rfl | hp
    · unfold placeAt
      exact ⟨Int.emod_nonneg _ (by omega), Int.emod_lt_of_pos _ hm⟩
    · exact ih (k + 1) p hp
theorem placesFrom_length (h d m : Int) : ∀ (n k : Nat), (placesFrom h d m k n).length = n := by
  intro n
  induction n with
  | zero => intro k; rfl
  | succ n ih => intro k; simp [placesFrom, ih]
theorem place_wrap (x m : Int) (hm : 0 < m) (hm2 : m ≤ 1600) : wrap64 ((x % 4294967296) % m) = (x % 4294967296) % m := by
  have h1 := Int.emod_nonneg (x % 4294967296) (show m ≠ 0 by omega)
  have h2 := Int.emod_lt_of_pos (x % 4294967296) hm
  exact w64 (by omega) (by omega)
theorem spec_l6Places_l0 (h d : Int) (hh : 0 ≤ h) (ways bytes : Nat) (hw : ways ≤ 8) (hb : 1 ≤ bytes ∧ bytes ≤ 200) : ∀ (n k : Nat) (acc : List Int), k + n = ways → acc.length ≤ 100 + k → Ev (fun f => spec_l6Places.l0 f (ways : Int) (bytes : Int) ((h + k * d) % 4294967296) d acc (k : Int)) (acc ++ placesFrom h d (8 * bytes) k n) := by
  intro n
  induction n with
  | zero =>
    intro k acc hk ha
    refine Ev_succ ?_
    simp only [spec_l6Places.l0]
    simp only [if_neg (show ¬ (k : Int) < (ways : Int) by omega)]
    exact Ev_cast (Ev.now _) (by simp [placesFrom])
  | succ n ih =>
    intro k acc hk ha
    refine Ev_succ ?_
    simp only [spec_l6Places.l0]
    rw [w64 (n := 8 * (bytes : Int)) (by omega) (by omega), show 8 * (bytes : Int) % 4294967296 = 8 * (bytes : Int) by omega]
    simp only [if_pos (show (k : Int) < (ways : Int) by omega), if_neg (show ¬ 8 * (bytes : Int) = 0 by omega), if_pos (show acc.length < 17592186044416 by omega)]
    rw [Int.tmod_eq_emod_of_nonneg (by omega), place_wrap _ _ (by omega) (by omega), w64 (by omega) (by omega)]
    have e : ((h + k * d) % 4294967296 + d) % 4294967296 = (h + ((k + 1 : Nat) : Int) * d) % 4294967296 := by
      rw [Int.emod_add_emod]
      congr 1
      push_cast
      rw [Int.add_mul]; omega
    rw [e]
    exact Ev_cast (ih (k + 1) _ (by omega) (by simp; omega)) (by simp [placesFrom, placeAt])
theorem spec_l6Places_ev (s : ByteArray) (hs : s.size ≤ 4611686018427387904) (ways bytes : Nat) (hw : ways ≤ 8) (hb : 1 ≤ bytes ∧ bytes ≤ 200) : Ev (fun f => spec_l6Places.f f s (ways : Int) (bytes : Int)) (placesOf s ways bytes) := by
  unfold spec_l6Places.f
  refine Ev.bind (spec_l6Hash_ev s hs 0) ?_
  refine Ev.bind (spec_l6Hash_ev s hs 1) ?_
  have hr := hashOf_range s 0
  have := spec_l6Places_l0 (hashOf s 0) (hashOf s 1) (by omega) ways bytes hw hb ways 0 [] (by omega) (by simp)
  rw [show (hashOf s 0 + ((0 : Nat) : Int) * hashOf s 1) % 4294967296 = hashOf s 0 by simp; omega] at this
  exact this
theorem impl_places_l0 (h d : Int) (w : Int) (bits : List Int) (ways : Nat) (hw : ways ≤ 8) (hb : 1 ≤ bits.length ∧ bits.length ≤ 200) : ∀ (n k : Nat) (acc : List Int), k + n = ways → acc.length ≤ 100 + k → Ev (fun f => impl_Filter_places.l0 f h d acc (ways : Int) (k : Int) w bits) (acc ++ placesFrom h d (8 * (bits.length : Int)) k n) := by
  intro n
  induction n with
  | zero =>
    intro k acc hk ha
    refine Ev_succ ?_
    simp only [impl_Filter_places.l0]
    simp only [if_neg (show ¬ (k : Int) < (ways : Int) by omega)]
    exact Ev_cast (Ev.now _) (by simp [placesFrom])
  | succ n ih =>
    intro k acc hk ha
    refine Ev_succ ?_
    simp only [impl_Filter_places.l0]
    rw [w64 (n := 8 * (bits.length : Int)) (by omega) (by omega), show 8 * (bits.length : Int) % 4294967296 = 8 * (bits.length : Int) by omega, show (k : Int) % 4294967296 = (k : Int) by omega]
    simp only [if_pos (show (k : Int) < (ways : Int) by omega), if_neg (show ¬ 8 * (bits.length : Int) = 0 by omega), if_pos (show acc.length < 17592186044416 by omega)]
    rw [place_wrap _ _ (by omega) (by omega), w64 (by omega) (by omega)]
    exact Ev_cast (ih (k + 1) _ (by omega) (by simp; omega)) (by simp [placesFrom, placeAt])
theorem impl_places_ev (s : ByteArray) (hs : s.size ≤ 4611686018427387904) (ways : Nat) (bits : List Int) (hw : ways ≤ 8) (hb : 1 ≤ bits.length ∧ bits.length ≤ 200) : Ev (fun f => impl_Filter_places.f f (ways : Int) bits s) (placesOf s ways bits.length) := by
  unfold impl_Filter_places.f
  refine Ev.bind (impl_hash_ev s hs 0) ?_
  refine Ev.bind (impl_hash_ev s hs 1) ?_
  exact impl_places_l0 (hashOf s 0) (hashOf s 1) _ bits ways hw hb ways 0 [] (by omega) (by simp)
def setBit (l : List Int) (p : Int) : List Int := l.set (wrap64 (Int.tdiv p 8)).toNat (Go.bits .or .u8 (rd l (wrap64 (Int.tdiv p 8))) (shl .u8 1 (Int.tmod p 8)))
theorem setBit_length (l : List Int) (p : Int) : (setBit l p).length = l.length := by unfold setBit; simp
theorem foldBits_length (ps : List Int) : ∀ l : List Int, (ps.foldl setBit l).length = l.length := by
  induction ps with
  | nil => intro l; rfl
  | cons p ps ih => intro l; rw [List.foldl_cons, ih, setBit_length]
def setKeys (ways : Nat) (l : List Int) (keys : List ByteArray) : List Int := keys.foldl (fun l s => (placesOf s ways l.length).foldl setBit l) l
theorem setKeys_length (ways : Nat) (keys : List ByteArray) : ∀ l : List Int, (setKeys ways l keys).length = l.length := by
  unfold setKeys
  induction keys with
  | nil => intro l; rfl
  | cons p ps ih => intro l; rw [List.foldl_cons, ih, foldBits_length]
def waysOf (perKey : Int) : Nat := if perKey * 69 / 100 < 1 then 1 else if perKey * 69 / 100 > 8 then 8 else (perKey * 69 / 100).toNat
def bytesFor (n : Nat) (perKey : Int) : Nat := if (n : Int) * perKey < 64 then 8 else if ((n : Int) * perKey + 7) / 8 > 200 then 200 else (((n : Int) * perKey + 7) / 8).toNat
def filterOf (keys : List ByteArray) (perKey : Int) : Int × List Int × Bool := if keys.length ≤ 100 ∧ 1 ≤ perKey ∧ perKey ≤ 20 then ((waysOf perKey : Int), setKeys (waysOf perKey) (List.replicate (bytesFor keys.length perKey) 0) keys, true) else (0, [], false)
theorem waysOf_range (perKey : Int) : 1 ≤ waysOf perKey ∧ waysOf perKey ≤ 8 := by
  unfold waysOf
  split
  · omega
  · split <;> omega
theorem bytesFor_range (n : Nat) (perKey : Int) : 1 ≤ bytesFor n perKey ∧ bytesFor n perKey ≤ 200 := by
  unfold bytesFor
  split
  · omega
  · split <;> omega
theorem keys_bound (n : Nat) (perKey : Int) (hn : n ≤ 100) (hp : 1 ≤ perKey ∧ perKey ≤ 20) : 0 ≤ (n : Int) * perKey ∧ (n : Int) * perKey ≤ 2000 := by
  constructor
  · exact Int.mul_nonneg (by omega) (by omega)
  · have := Int.mul_le_mul (show (n : Int) ≤ 100 by omega) hp.2 (by omega) (by omega)
    omega
theorem shr_idx (p : Int) (m : Nat) (h0 : 0 ≤ p) (h1 : p < 8 * (m : Int)) (hm : m ≤ 200) : 0 ≤ wrap64 (Int.tdiv p 8) ∧ wrap64 (Int.tdiv p 8) < (m : Int) ∧ 0 ≤ Int.tmod p 8 ∧ IntKind.u64.wrap (Int.tmod p 8) = Int.tmod p 8 := by
  rw [Int.tdiv_eq_ediv_of_nonneg h0, Int.tmod_eq_emod_of_nonneg h0, w64 (by omega) (by omega), wrap_u64]
  omega
theorem impl_FilterOf_l1 (keys : List ByteArray) (K I w : Int) (r : Int × List Int × Bool) : ∀ (ps pre bits : List Int), (pre ++ ps).length ≤ 1000 → bits.length ≤ 200 → (∀ p ∈ ps, 0 ≤ p ∧ p < 8 * (bits.length : Int)) → Ev (fun k => impl_FilterOf.l0 k keys K (wrap64 (I + 1)) w (ps.foldl setBit bits)) r →
    Ev (fun k => impl_FilterOf.l1 k keys K I (pre ++ ps) ((pre ++ ps).length : Int) (pre.length : Int) w bits) r := by
  intro ps
  induction ps with
  | nil =>
    intro pre bits hl hb hp hr
    refine Ev_succ ?_
    simp only [impl_FilterOf.l1]
    simp only [if_neg (show ¬ (pre.length : Int) < ((pre ++ []).length : Int) by simp)]
    exact hr
  | cons p ps ih =>
    intro pre bits hl hb hp hr
    refine Ev_succ ?_
    have hll : (pre ++ p :: ps).length = pre.length + ps.length + 1 := by simp; omega
    have hrd : rd (pre ++ p :: ps) (pre.length : Int) = p := by rw [rd_lt (by omega)]; simp
    obtain ⟨p0, p1⟩ := hp p (List.mem_cons_self ..)
    obtain ⟨i0, i1, i2, i3⟩ := shr_idx p bits.length p0 p1 hb
    simp only [impl_FilterOf.l1, hrd]
    simp only [if_pos (show (pre.length : Int) < ((pre ++ p :: ps).length : Int) by omega), if_pos (show 0 ≤ (pre.length : Int) by omega), if_pos i0, if_pos i1, if_pos i2]
    rw [w64 (n := (pre.length : Int) + 1) (by omega) (by omega)]
    have e : pre ++ p :: ps = (pre ++ [p]) ++ ps := by simp
    rw [e, show (pre.length : Int) + 1 = ((pre ++ [p]).length : Int) by simp]
    refine ih (pre ++ [p]) (setBit bits p) (by rw [← e]; exact hl) (by rw [setBit_length]; exact hb) (fun q hq => by rw [setBit_length]; exact hp q (List.mem_cons_of_mem _ hq)) hr
theorem impl_FilterOf_l0 (ways : Nat) (m : Nat) (hw : ways ≤ 8) (hm : 1 ≤ m ∧ m ≤ 200) (keys : List ByteArray) (hk : keys.length ≤ 100) (hs : ∀ s ∈ keys, s.size ≤ 1048576) : ∀ (d i : Nat) (bits : List Int), keys.length - i = d → i ≤ keys.length → bits.length = m →
    Ev (fun k => impl_FilterOf.l0 k keys (keys.length : Int) (i : Int) (ways : Int) bits) ((ways : Int), setKeys ways bits (keys.drop i), true) := by
  intro d
  induction d with
  | zero =>
    intro i bits hd hi hb
    refine Ev_succ ?_
    simp only [impl_FilterOf.l0]
    simp only [if_neg (show ¬ (i : Int) < (keys.length : Int) by omega)]
    rw [List.drop_eq_nil_of_le (by omega)]
    exact Ev.now _
  | succ d ih =>
    intro i bits hd hi hb
    refine Ev_succ ?_
    simp only [impl_FilterOf.l0]
    simp only [if_pos (show (i : Int) < (keys.length : Int) by omega), if_pos (show 0 ≤ (i : Int) by omega)]
    rw [rdOf_lt (by omega), drop_cons (l := keys) (i := i) (by omega)]
    have hsz := hs (keys[i]'(by omega)) (List.getElem_mem _)
    generalize keys[i]'(by omega) = s at hsz ⊢
    refine Ev.bind (impl_places_ev s (by omega) ways bits hw (by omega)) ?_
    rw [hb]
    have hp := placesFrom_range (hashOf s 0) (hashOf s 1) (8 * (m : Int)) (by omega) ways 0
    have hpl : (placesOf s ways m).length = ways := placesFrom_length _ _ _ _ _
    have := impl_FilterOf_l1 keys (keys.length : Int) (i : Int) (ways : Int) ((ways : Int), setKeys ways bits (s :: keys.drop (i + 1)), true) (placesOf s ways m) [] bits (by rw [List.nil_append]; omega) (by omega) (by rw [hb]; exact hp) (by
      rw [w64 (by omega) (by omega)]
      have := ih (i + 1) ((placesOf s ways m).foldl setBit bits) (by omega) (by omega) (by rw [foldBits_length]; exact hb)
      have e : setKeys ways bits (s :: keys.drop (i + 1)) = setKeys ways ((placesOf s ways m).foldl setBit bits) (keys.drop (i + 1)) := by
        unfold setKeys
        rw [List.foldl_cons, hb]
      rw [e]
      exact this)
    exact this
theorem impl_FilterOf_ev (keys : List ByteArray) (hs : ∀ s ∈ keys, s.size ≤ 1048576) (hkl : keys.length ≤ 1048576) (perKey : Int) : Ev (fun k => impl_FilterOf.f k keys perKey) (filterOf keys perKey) := by
  have bad : Ev (fun k => impl_FilterOf.j0 k keys perKey true) (0, [], false) := by
    refine Ev_succ ?_
    simp only [impl_FilterOf.j0, if_true]
    exact Ev.now _
  unfold impl_FilterOf.f filterOf
  by_cases hk : (keys.length : Int) > 100
  · simp only [if_pos hk]; rw [if_neg (by omega)]; exact bad
  simp only [if_neg hk]
  refine Ev.bind (Ev_some (within_eq _ _ _)) ?_
  by_cases hp : 1 ≤ perKey ∧ perKey ≤ 20
  · rw [decide_eq_true hp, if_pos ⟨by omega, hp.1, hp.2⟩, Bool.not_true]
    have hw := waysOf_range perKey
    have hm := bytesFor_range keys.length perKey
    have hkb := keys_bound keys.length perKey (by omega) hp
    refine Ev_succ ?_
    simp only [impl_FilterOf.j0, Bool.false_eq_true, if_false]
    have eW : mn 8 (mx 1 (wrap64 (Int.tdiv (wrap64 (perKey * 69)) 100))) = (waysOf perKey : Int) := by
      rw [w64 (n := perKey * 69) (by omega) (by omega), Int.tdiv_eq_ediv_of_nonneg (by omega), w64 (by omega) (by omega)]
      unfold mn mx waysOf
      repeat' split
      all_goals omega
    have eB : mn 200 (wrap64 (Int.tdiv (wrap64 (mx 64 (wrap64 ((keys.length : Int) * perKey)) + 7)) 8)) = (bytesFor keys.length perKey : Int) := by
      rw [w64 (n := (keys.length : Int) * perKey) (by omega) (by omega)]
      unfold bytesFor
      generalize (keys.length : Int) * perKey = q at hkb
      have hmx : 64 ≤ mx 64 q ∧ mx 64 q ≤ 2000 := by unfold mx; split <;> omega
      rw [w64 (n := mx 64 q + 7) (by omega) (by omega), Int.tdiv_eq_ediv_of_nonneg (by omega), w64 (by omega) (by omega)]
      unfold mn mx
      repeat' split
      all_goals omega
    rw [eW, eB]
    simp only [Int.toNat_natCast, if_pos (show 0 ≤ (bytesFor keys.length perKey : Int) by omega), if_pos (show bytesFor keys.length perKey ≤ 281474976710656 by omega)]
    have := impl_FilterOf_l0 (waysOf perKey) (bytesFor keys.length perKey) hw.2 hm keys (by omega) hs keys.length 0 (List.replicate (bytesFor keys.length perKey) 0) (by omega) (by omega) (by simp)
    exact this
  · rw [decide_eq_false hp, if_neg (by omega), Bool.not_false]
    exact bad
theorem spec_l6Filter_l1 (W M : Int) (keys : List ByteArray) (K I w : Int) (r : Int × List Int) : ∀ (ps pre bits : List Int), (pre ++ ps).length ≤ 1000 → bits.length ≤ 200 → (∀ p ∈ ps, 0 ≤ p ∧ p < 8 * (bits.length : Int)) → Ev (fun k => spec_l6Filter.l0 k W M keys K (wrap64 (I + 1)) w (ps.foldl setBit bits)) r →
    Ev (fun k => spec_l6Filter.l1 k W M keys K I (pre ++ ps) ((pre ++ ps).length : Int) (pre.length : Int) w bits) r := by
  intro ps
  induction ps with
  | nil =>
    intro pre bits hl hb hp hr
    refine Ev_succ ?_
    simp only [spec_l6Filter.l1]
    simp only [if_neg (show ¬ (pre.length : Int) < ((pre ++ []).length : Int) by simp)]
    exact hr
  | cons p ps ih =>
    intro pre bits hl hb hp hr
    refine Ev_succ ?_
    have hll : (pre ++ p :: ps).length = pre.length + ps.length + 1 := by simp; omega
    have hrd : rd (pre ++ p :: ps) (pre.length : Int) = p := by rw [rd_lt (by omega)]; simp
    obtain ⟨p0, p1⟩ := hp p (List.mem_cons_self ..)
    obtain ⟨i0, i1, i2, i3⟩ := shr_idx p bits.length p0 p1 hb
    simp only [spec_l6Filter.l1, hrd, i3]
    simp only [if_pos (show (pre.length : Int) < ((pre ++ p :: ps).length : Int) by omega), if_pos (show 0 ≤ (pre.length : Int) by omega), if_pos i0, if_pos i1, if_pos i2]
    rw [w64 (n := (pre.length : Int) + 1) (by omega) (by omega)]
    have e : pre ++ p :: ps = (pre ++ [p]) ++ ps := by simp
    rw [e, show (pre.length : Int) + 1 = ((pre ++ [p]).length : Int) by simp]
    refine ih (pre ++ [p]) (setBit bits p) (by rw [← e]; exact hl) (by rw [setBit_length]; exact hb) (fun q hq => by rw [setBit_length]; exact hp q (List.mem_cons_of_mem _ hq)) hr
theorem spec_l6Filter_l0 (ways : Nat) (m : Nat) (w : Int) (hw : ways ≤ 8) (hm : 1 ≤ m ∧ m ≤ 200) (keys : List ByteArray) (hk : keys.length ≤ 100) (hs : ∀ s ∈ keys, s.size ≤ 1048576) : ∀ (d i : Nat) (bits : List Int), keys.length - i = d → i ≤ keys.length → bits.length = m →
    Ev (fun k => spec_l6Filter.l0 k (ways : Int) (m : Int) keys (keys.length : Int) (i : Int) w bits) (w, setKeys ways bits (keys.drop i)) := by
  intro d
  induction d with
  | zero =>
    intro i bits hd hi hb
    refine Ev_succ ?_
    simp only [spec_l6Filter.l0]
    simp only [if_neg (show ¬ (i : Int) < (keys.length : Int) by omega)]
    rw [List.drop_eq_nil_of_le (by omega)]
    exact Ev.now _
  | succ d ih =>
    intro i bits hd hi hb
    refine Ev_succ ?_
    simp only [spec_l6Filter.l0]
    simp only [if_pos (show (i : Int) < (keys.length : Int) by omega), if_pos (show 0 ≤ (i : Int) by omega)]
    rw [rdOf_lt (by omega), drop_cons (l := keys) (i := i) (by omega)]
    have hsz := hs (keys[i]'(by omega)) (List.getElem_mem _)
    generalize keys[i]'(by omega) = s at hsz ⊢
    refine Ev.bind (spec_l6Places_ev s (by omega) ways m hw hm) ?_
    have hp := placesFrom_range (hashOf s 0) (hashOf s 1) (8 * (m : Int)) (by omega) ways 0
    have hpl : (placesOf s ways m).length = ways := placesFrom_length _ _ _ _ _
    have := spec_l6Filter_l1 (ways : Int) (m : Int) keys (keys.length : Int) (i : Int) w (w, setKeys ways bits (s :: keys.drop (i + 1))) (placesOf s ways m) [] bits (by rw [List.nil_append]; omega) (by omega) (by rw [hb]; exact hp) (by
      rw [w64 (by omega) (by omega)]
      have := ih (i + 1) ((placesOf s ways m).foldl setBit bits) (by omega) (by omega) (by rw [foldBits_length]; exact hb)
      have e : setKeys ways bits (s :: keys.drop (i + 1)) = setKeys ways ((placesOf s ways m).foldl setBit bits) (keys.drop (i + 1)) := by
        unfold setKeys
        rw [List.foldl_cons, hb]
      rw [e]
      exact this)
    exact this
theorem spec_l6Filter_ev (keys : List ByteArray) (hs : ∀ s ∈ keys, s.size ≤ 1048576) (hk : keys.length ≤ 100) (perKey : Int) (hp : 1 ≤ perKey ∧ perKey ≤ 20) : Ev (fun k => spec_l6Filter.f k keys perKey) ((waysOf perKey : Int), setKeys (waysOf perKey) (List.replicate (bytesFor keys.length perKey) 0) keys) := by
  have hw := waysOf_range perKey
  have hm := bytesFor_range keys.length perKey
  have hkb := keys_bound keys.length perKey (by omega) hp
  -- the number of bytes
  have j3 : Ev (fun k => spec_l6Filter.j3 k keys (waysOf perKey : Int) (bytesFor keys.length perKey : Int)) ((waysOf perKey : Int), setKeys (waysOf perKey) (List.replicate (bytesFor keys.length perKey) 0) keys) := by
    refine Ev_succ ?_
    simp only [spec_l6Filter.j3, Int.toNat_natCast]
    simp only [if_pos (show 0 ≤ (bytesFor keys.length perKey : Int) by omega), if_pos (show bytesFor keys.length perKey ≤ 281474976710656 by omega)]
    exact spec_l6Filter_l0 (waysOf perKey) (bytesFor keys.length perKey) _ hw.2 hm keys (by omega) hs keys.length 0 _ (by omega) (by omega) (by simp)
  have j1 : Ev (fun k => spec_l6Filter.j1 k keys perKey (waysOf perKey : Int)) ((waysOf perKey : Int), setKeys (waysOf perKey) (List.replicate (bytesFor keys.length perKey) 0) keys) := by
    refine Ev_succ ?_
    simp only [spec_l6Filter.j1]
    rw [w64 (n := (keys.length : Int) * perKey) (by omega) (by omega)]
    generalize hB : bytesFor keys.length perKey = B at j3
    unfold bytesFor at hB
    generalize (keys.length : Int) * perKey = q at hkb hB ⊢
    by_cases h64 : q < 64
    · simp only [if_pos h64]
      rw [if_pos h64] at hB
      subst hB
      refine Ev_succ ?_
      simp only [spec_l6Filter.j2]
      rw [w64 (n := (64 : Int) + 7) (by omega) (by omega), show Int.tdiv (64 + 7) 8 = 8 by rfl, w64 (by omega) (by omega)]
      simp only [if_neg (show ¬ (8 : Int) > 200 by omega)]
      exact j3
    · simp only [if_neg h64]
      rw [if_neg h64] at hB
      refine Ev_succ ?_
      simp only [spec_l6Filter.j2]
      rw [w64 (n := q + 7) (by omega) (by omega), Int.tdiv_eq_ediv_of_nonneg (by omega), w64 (by omega) (by omega)]
      by_cases h200 : (q + 7) / 8 > 200
      · simp only [if_pos h200]
        rw [if_pos h200] at hB
        subst hB
        exact j3
      · simp only [if_neg h200]
        rw [if_neg h200] at hB
        rw [show (q + 7) / 8 = (B : Int) by omega]
        exact j3
  unfold spec_l6Filter.f
  rw [w64 (n := perKey * 69) (by omega) (by omega), Int.tdiv_eq_ediv_of_nonneg (by omega), w64 (by omega) (by omega)]
  generalize hW : waysOf perKey = W at j1
  unfold waysOf at hW
  by_cases h1 : perKey * 69 / 100 < 1
  · simp only [if_pos h1]
    rw [if_pos h1] at hW
    subst hW
    refine Ev_succ ?_
    simp only [spec_l6Filter.j0, if_neg (show ¬ (1 : Int) > 8 by omega)]
    exact j1
  · simp only [if_neg h1]
    rw [if_neg h1] at hW
    refine Ev_succ ?_
    simp only [spec_l6Filter.j0]
    by_cases h8 : perKey * 69 / 100 > 8
    · simp only [if_pos h8]
      rw [if_pos h8] at hW
      subst hW
      exact j1
    · simp only [if_neg h8]
      rw [if_neg h8] at hW
      rw [show perKey * 69 / 100 = (W : Int) by omega]
      exact j1
def goodFilter (w : Int) (l : List Int) : Bool := decide ((1 ≤ w ∧ w ≤ 8) ∧ 1 ≤ l.length ∧ l.length ≤ 200)
theorem impl_GoodFilter_eq (w : Int) (l : List Int) : impl_GoodFilter.f w l = some (goodFilter w l) := by
  unfold impl_GoodFilter.f goodFilter
  rw [within_eq, Option.bind_some]
  by_cases h : 1 ≤ w ∧ w ≤ 8
  · rw [decide_eq_true h, if_pos rfl, within_eq, Option.bind_some]
    congr 1
    rw [decide_eq_decide]
    omega
  · rw [decide_eq_false h, if_neg (by simp)]
    congr 1
    rw [eq_comm, decide_eq_false_iff_not]
    exact fun hh => h hh.1
def filterBytes (w : Int) (l : List Int) : List Int × Bool := if goodFilter w l = true then (w % 256 :: l, true) else ([], false)
theorem impl_FilterBytes_eq (w : Int) (l : List Int) (hl : l.length ≤ 1048576) : impl_FilterBytes.f w l = some (filterBytes w l) := by
  unfold impl_FilterBytes.f filterBytes
  rw [impl_GoodFilter_eq, Option.bind_some]
  by_cases h : goodFilter w l = true
  · rw [if_pos h, if_pos h]
    simp only [Option.bind_some]
    rw [if_pos (by simp; omega)]
    rfl
  · rw [if_neg h, if_neg h]
def crcBit (c : Int) : Int := if Go.bits .and .u32 c 1 = 1 then Go.bits .xor .u32 (c / 2) 2197175160 else c / 2
def crcBits : Nat → Int → Int
  | 0, c => c
  | n + 1, c => crcBits n (crcBit c)
def crcFrom (c : Int) : List Int → Int
  | [] => c
  | b :: t => crcFrom (crcBits 8 (Go.bits .xor .u32 c (b % 4294967296))) t
def crcOf (l : List Int) : Int := Go.bits .xor .u32 4294967295 (crcFrom 4294967295 l)
theorem bits_xor_comm (k : IntKind) (a b : Int) : Go.bits .xor k a b = Go.bits .xor k b a := by
  unfold Go.bits
  show k.wrap (((BitVec.ofInt k.bits a ^^^ BitVec.ofInt k.bits b).toNat : Nat) : Int) = k.wrap (((BitVec.ofInt k.bits b ^^^ BitVec.ofInt k.bits a).toNat : Nat) : Int)
  rw [BitVec.xor_comm]
theorem spec_l1Crc_l1 (l : List Int) (L I : Int) (r : Int) : ∀ (n : Nat) (c : Int), n ≤ 8 → Ev (fun k => spec_l1Crc.l0 k (crcBits n c) l L (wrap64 (I + 1))) r → Ev (fun k => spec_l1Crc.l1 k c (8 - (n : Int)) l L I) r := by
  intro n
  induction n with
  | zero =>
    intro c hn h
    refine Ev_succ ?_
    simp only [spec_l1Crc.l1]
    simp only [if_neg (show ¬ (8 : Int) - (0 : Nat) < 8 by omega)]
    exact h
  | succ n ih =>
    intro c hn h
    refine Ev_succ ?_
    simp only [spec_l1Crc.l1]
    simp only [if_pos (show (8 : Int) - ((n + 1 : Nat) : Int) < 8 by omega)]
    rw [w64 (n := (8 : Int) - ((n + 1 : Nat) : Int) + 1) (by omega) (by omega), show (8 : Int) - ((n + 1 : Nat) : Int) + 1 = 8 - (n : Int) by omega]
    have e : crcBits (n + 1) c = crcBits n (crcBit c) := rfl
    rw [e] at h
    by_cases hb : Go.bits .and .u32 c 1 = 1
    · simp only [if_pos hb]
      exact ih _ (by omega) (by rw [crcBit, if_pos hb] at h; exact h)
    · simp only [if_neg hb]
      exact ih _ (by omega) (by rw [crcBit, if_neg hb] at h; exact h)
theorem spec_l1Crc_l0 (l : List Int) (hl : l.length ≤ 4611686018427387904) : ∀ (d i : Nat) (c : Int), l.length - i = d → i ≤ l.length → Ev (fun k => spec_l1Crc.l0 k c l (l.length : Int) (i : Int)) (Go.bits .xor .u32 (crcFrom c (l.drop i)) 4294967295) := by
  intro d
  induction d with
  | zero =>
    intro i c hd hi
    refine Ev_succ ?_
    simp only [spec_l1Crc.l0]
    simp only [if_neg (show ¬ (i : Int) < (l.length : Int) by omega)]
    rw [List.drop_eq_nil_of_le (by omega)]
    exact Ev.now _
  | succ d ih =>
    intro i c hd hi
    refine Ev_succ ?_
    simp only [spec_l1Crc.l0]
    simp only [if_pos (show (i : Int) < (l.length : Int) by omega), if_pos (show 0 ≤ (i : Int) by omega)]
    have := spec_l1Crc_l1 l (l.length : Int) (i : Int) _ 8 (Go.bits .xor .u32 c (rd l (i : Int) % 4294967296)) (by omega) (by
      rw [w64 (by omega) (by omega)]
      exact ih (i + 1) _ (by omega) (by omega))
    rw [rd_lt (by omega)] at this ⊢
    rw [drop_cons (l := l) (i := i) (by omega)]
    exact this
theorem spec_l1Crc_ev (l : List Int) (hl : l.length ≤ 4611686018427387904) : Ev (fun k => spec_l1Crc.f k l) (crcOf l) := by
  unfold spec_l1Crc.f crcOf
  have := spec_l1Crc_l0 l hl l.length 0 4294967295 (by omega) (by omega)
  rw [bits_xor_comm]
  simpa using this
theorem impl_Crc32c_l1 (l : List Int) (L I : Int) (r : Int) : ∀ (n : Nat) (c : Int), n ≤ 8 → Ev (fun k => impl_Crc32c.l0 k (crcBits n c) l L (wrap64 (I + 1))) r → Ev (fun k => impl_Crc32c.l1 k c l L I (8 - (n : Int))) r := by
  intro n
  induction n with
  | zero =>
    intro c hn h
    refine Ev_succ ?_
    simp only [impl_Crc32c.l1]
    simp only [if_neg (show ¬ (8 : Int) - (0 : Nat) < 8 by omega)]
    exact h
  | succ n ih =>
    intro c hn h
    refine Ev_succ ?_
    simp only [impl_Crc32c.l1]
    simp only [if_pos (show (8 : Int) - ((n + 1 : Nat) : Int) < 8 by omega)]
    rw [w64 (n := (8 : Int) - ((n + 1 : Nat) : Int) + 1) (by omega) (by omega), show (8 : Int) - ((n + 1 : Nat) : Int) + 1 = 8 - (n : Int) by omega]
    have e : crcBits (n + 1) c = crcBits n (crcBit c) := rfl
    rw [e] at h
    by_cases hb : Go.bits .and .u32 c 1 = 1
    · simp only [if_pos hb]
      exact ih _ (by omega) (by rw [crcBit, if_pos hb] at h; exact h)
    · simp only [if_neg hb]
      exact ih _ (by omega) (by rw [crcBit, if_neg hb] at h; exact h)
theorem impl_Crc32c_l0 (l : List Int) (hl : l.length ≤ 4611686018427387904) : ∀ (d i : Nat) (c : Int), l.length - i = d → i ≤ l.length → Ev (fun k => impl_Crc32c.l0 k c l (l.length : Int) (i : Int)) (Go.bits .xor .u32 4294967295 (crcFrom c (l.drop i))) := by
  intro d
  induction d with
  | zero =>
    intro i c hd hi
    refine Ev_succ ?_
    simp only [impl_Crc32c.l0]
    simp only [if_neg (show ¬ (i : Int) < (l.length : Int) by omega)]
    rw [List.drop_eq_nil_of_le (by omega)]
    exact Ev.now _
  | succ d ih =>
    intro i c hd hi
    refine Ev_succ ?_
    simp only [impl_Crc32c.l0]
    simp only [if_pos (show (i : Int) < (l.length : Int) by omega), if_pos (show 0 ≤ (i : Int) by omega)]
    have := impl_Crc32c_l1 l (l.length : Int) (i : Int) _ 8 (Go.bits .xor .u32 c (rd l (i : Int) % 4294967296)) (by omega) (by
      rw [w64 (by omega) (by omega)]
      exact ih (i + 1) _ (by omega) (by omega))
    rw [rd_lt (by omega)] at this ⊢
    rw [drop_cons (l := l) (i := i) (by omega)]
    exact this
theorem impl_Crc32c_ev (l : List Int) (hl : l.length ≤ 4611686018427387904) : Ev (fun k => impl_Crc32c.f k l) (crcOf l) := by
  unfold impl_Crc32c.f crcOf
  have := impl_Crc32c_l0 l hl l.length 0 4294967295 (by omega) (by omega)
  simpa using this
def fixedB : Nat → Nat → List Int
  | _, 0 => []
  | n, m + 1 => fixedB (n / 256) m ++ [((n % 256 : Nat) : Int)]
theorem fixedB_length : ∀ (m n : Nat), (fixedB n m).length = m := by
  intro m
  induction m with
  | zero => intro n; rfl
  | succ m ih => intro n; simp [fixedB, ih]
theorem fixedB_bytes : ∀ (m n : Nat), Bytes (fixedB n m) := by
  intro m
  induction m with
  | zero => intro n; exact Bytes.nil
  | succ m ih => intro n; exact (ih _).app (Bytes.one (by omega) (by omega))
theorem two_pow_8 (j : Nat) : (2 : Int) ^ (8 * j) = 256 ^ j := by rw [Int.pow_mul]; rfl
theorem shr8 (n j : Nat) (hj : j ≤ 8) : shr .i64 (n : Int) (8 * (j : Int)) = ((n / 256 ^ j : Nat) : Int) := by
  unfold shr
  rw [show (min (8 * (j : Int)).toNat IntKind.i64.bits) = 8 * j by simp [IntKind.bits]; omega, two_pow_8, Int.natCast_ediv, Int.natCast_pow]
  rfl
theorem spec_l1Fixed_l0 (n : Nat) : ∀ (j m : Nat), m + j ≤ 8 → Ev (fun k => spec_l1Fixed.l0 k (n : Int) (fixedB (n / 256 ^ j) m) ((j : Int) - 1)) (fixedB n (m + j)) := by
  intro j
  induction j with
  | zero =>
    intro m h
    refine Ev_succ ?_
    simp only [spec_l1Fixed.l0, if_neg (show ¬ ((0 : Nat) : Int) - 1 ≥ 0 by omega)]
    exact Ev_cast (Ev.now _) (by simp)
  | succ j ih =>
    intro m h
    refine Ev_succ ?_
    rw [show ((j + 1 : Nat) : Int) - 1 = (j : Int) by omega]
    simp only [spec_l1Fixed.l0]
    rw [w64 (n := 8 * (j : Int)) (by omega) (by omega), wrap_u64, show (8 * (j : Int)) % 18446744073709551616 = 8 * (j : Int) by omega, w64 (by omega) (by omega), shr8 n j (by omega)]
    have hl := fixedB_length m (n / 256 ^ (j + 1))
    simp only [if_pos (show (j : Int) ≥ 0 by omega), if_pos (show 0 ≤ 8 * (j : Int) by omega), if_pos (show (fixedB (n / 256 ^ (j + 1)) m).length < 140737488355328 by omega)]
    have e : fixedB (n / 256 ^ (j + 1)) m ++ [((n / 256 ^ j : Nat) : Int) % 256] = fixedB (n / 256 ^ j) (m + 1) := by
      simp only [fixedB]
      rw [Nat.div_div_eq_div_mul, ← Nat.pow_succ]
      congr 1
    rw [e]
    exact Ev_cast (ih (m + 1) (by omega)) (by congr 1; omega)
theorem spec_l1Fixed_ev (n m : Nat) (h : m ≤ 8) : Ev (fun k => spec_l1Fixed.f k (n : Int) (m : Int)) (fixedB n m) := by
  unfold spec_l1Fixed.f
  rw [w64 (by omega) (by omega)]
  exact Ev_cast (spec_l1Fixed_l0 n m 0 (by omega)) (by simp)
/-- What PutFixed tells. -/
def putFixed (n m : Int) : List Int × Bool := if 0 ≤ n ∧ 1 ≤ m ∧ m ≤ 8 ∧ (m < 8 → n.toNat / 256 ^ m.toNat = 0) then (fixedB n.toNat m.toNat, true) else ([], false)
theorem impl_PutFixed_l0 : ∀ (j n : Nat) (tl : List Int), j + tl.length ≤ 8 → Ev (fun k => impl_PutFixed.l0 k (n : Int) (List.replicate j 0 ++ tl) ((j : Int) - 1)) (fixedB n j ++ tl, true) := by
  intro j
  induction j with
  | zero =>
    intro n tl h
    refine Ev_succ ?_
    simp only [impl_PutFixed.l0, if_neg (show ¬ ((0 : Nat) : Int) - 1 ≥ 0 by omega)]
    exact Ev_cast (Ev.now _) (by simp [fixedB])
  | succ j ih =>
    intro n tl h
    refine Ev_succ ?_
    rw [show ((j + 1 : Nat) : Int) - 1 = (j : Int) by omega]
    simp only [impl_PutFixed.l0]
    have hl : (List.replicate (j + 1) (0 : Int) ++ tl).length = j + 1 + tl.length := by simp
    simp only [if_pos (show (j : Int) ≥ 0 by omega), if_pos (show 0 ≤ (j : Int) by omega), if_pos (show (j : Int) < ((List.replicate (j + 1) (0 : Int) ++ tl).length : Int) by omega)]
    rw [w64 (by omega) (by omega)]
    have e : (List.replicate (j + 1) (0 : Int) ++ tl).set ((j : Int)).toNat ((n : Int) % 256) = List.replicate j 0 ++ ((n : Int) % 256 :: tl) := by
      rw [Int.toNat_natCast, List.replicate_succ', List.append_assoc, List.set_append_right _ _ (by simp)]
      simp
    rw [e, show (n : Int) / 256 = ((n / 256 : Nat) : Int) by omega]
    exact Ev_cast (ih (n / 256) ((n : Int) % 256 :: tl) (by simp; omega)) (by simp [fixedB])
theorem impl_PutFixed_ev (n m : Int) (hn : n ≤ 9223372036854775807) : Ev (fun k => impl_PutFixed.f k n m) (putFixed n m) := by
  have bad : Ev (fun k => impl_PutFixed.j0 k n m true) ([], false) := by
    refine Ev_succ ?_
    simp only [impl_PutFixed.j0, if_true]
    exact Ev.now _
  unfold impl_PutFixed.f putFixed
  by_cases h0 : n < 0
  · simp only [if_pos h0]; rw [if_neg (by omega)]; exact bad
  simp only [if_neg h0]
  refine Ev.bind (Ev_some (within_eq _ _ _)) ?_
  by_cases h : 1 ≤ m ∧ m ≤ 8
  · rw [decide_eq_true h]
    simp only [if_true]
    have good : Ev (fun k => impl_PutFixed.j0 k n m false) (fixedB n.toNat m.toNat, true) := by
      refine Ev_succ ?_
      simp only [impl_PutFixed.j0, Bool.false_eq_true, if_false, if_pos (show 0 ≤ m by omega), if_pos (show m.toNat ≤ 281474976710656 by omega)]
      rw [w64 (by omega) (by omega)]
      have := impl_PutFixed_l0 m.toNat n.toNat [] (by simp; omega)
      simp only [List.append_nil] at this
      rwa [show ((n.toNat : Nat) : Int) = n by omega, show ((m.toNat : Nat) : Int) = m by omega] at this
    obtain ⟨N, rfl⟩ := Int.eq_ofNat_of_zero_le (show 0 ≤ n by omega)
    obtain ⟨M, rfl⟩ := Int.eq_ofNat_of_zero_le (show 0 ≤ m by omega)
    simp only [Int.toNat_natCast] at good ⊢
    by_cases h8 : (M : Int) < 8
    · simp only [if_pos h8]
      rw [w64 (n := 8 * (M : Int)) (by omega) (by omega), shr8 N M (by omega)]
      simp only [if_pos (show 0 ≤ 8 * (M : Int) by omega)]
      by_cases hz : N / 256 ^ M = 0
      · rw [if_pos ⟨by omega, h.1, h.2, fun _ => hz⟩, show (((N / 256 ^ M : Nat) : Int) != 0) = false by rw [hz]; rfl]
        exact good
      · rw [if_neg (fun hh => hz (hh.2.2.2 h8)), show (((N / 256 ^ M : Nat) : Int) != 0) = true by simp only [bne_iff_ne]; omega]
        exact bad
    · simp only [if_neg h8]
      rw [if_pos ⟨by omega, h.1, h.2, fun h' => absurd h' h8⟩]
      exact good
  · rw [decide_eq_false h]
    simp only [Bool.false_eq_true, if_false]
    rw [if_neg (by omega)]
    exact bad
theorem eqByteS_l0 (a b : List Int) (hl : a.length = b.length) (hb : a.length ≤ 4611686018427387904) :
    ∀ (d i : Nat), a.length - i = d → i ≤ a.length → Ev (fun k => laws_eqByteS.l0 k a b (i : Int)) (decide (a.drop i = b.drop i)) := by
  intro d
  induction d with
  | zero =>
    intro i hd hi
    refine Ev_succ ?_
    simp only [laws_eqByteS.l0]
    simp only [if_neg (show ¬ (i : Int) < (a.length : Int) by omega)]
    exact Ev_cast (Ev.now _) (by rw [List.drop_eq_nil_of_le (by omega), List.drop_eq_nil_of_le (by omega)]; simp)
  | succ d ih =>
    intro i hd hi
    refine Ev_succ ?_
    simp only [laws_eqByteS.l0]
    simp only [if_pos (show (i : Int) < (a.length : Int) by omega), if_pos (show 0 ≤ (i : Int) by omega), if_pos (show (i : Int) < (b.length : Int) by omega)]
    rw [rd_lt (by omega), rd_lt (by omega), w64 (by omega) (by omega), drop_cons (l := a) (by omega), drop_cons (l := b) (i := i) (by omega)]
    by_cases e : a[i]'(by omega) = b[i]'(by omega)
    · simp only [if_pos e]
      exact Ev_cast (ih (i + 1) (by omega) (by omega)) (decide_eq_decide.2 (by rw [List.cons.injEq]; exact ⟨fun h => ⟨e, h⟩, fun h => h.2⟩))
    · simp only [if_neg e]
      exact Ev_cast (Ev.now _) (Eq.symm (decide_eq_false (by rw [List.cons.injEq]; exact fun h => e h.1)))
theorem eqByteS_ev (a b : List Int) (ha : a.length ≤ 4611686018427387904) : Ev (fun k => laws_eqByteS.f k a b) (decide (a = b)) := by
  unfold laws_eqByteS.f
  by_cases h : a.length = b.length
  · simp only [if_pos (show (a.length : Int) = (b.length : Int) by omega)]
    exact eqByteS_l0 a b h ha a.length 0 (by omega) (by omega)
  · simp only [if_neg (show ¬ (a.length : Int) = (b.length : Int) by omega)]
    exact Ev_cast (Ev.now _) (by simp; intro e; exact h (by rw [e]))
theorem eqByteS_same (a b : List Int) (ha : a.length ≤ 4611686018427387904) (e : a = b) : Ev (fun k => laws_eqByteS.f k a b) true := Ev_cast (eqByteS_ev a b ha) (by simp [e])
theorem toByteS_l0 (l : List Int) : ∀ (d i : Nat) (o : List Int), l.length - i = d → i ≤ l.length → l.length ≤ 1152921504606846976 → o.length = l.length → o.take i = l.take i →
    Ev (fun k => laws_toByteS.l0 k l o (i : Int)) l := by
  intro d
  induction d with
  | zero =>
    intro i o hd hi hl ho ht
    refine Ev_succ ?_
    simp only [laws_toByteS.l0]
    simp only [if_neg (show ¬ (i : Int) < (l.length : Int) by omega)]
    exact Ev_cast (Ev.now _) (by rw [List.take_of_length_le (by omega), List.take_of_length_le (by omega)] at ht; exact ht)
  | succ d ih =>
    intro i o hd hi hl ho ht
    refine Ev_succ ?_
    simp only [laws_toByteS.l0]
    simp only [if_pos (show (i : Int) < (l.length : Int) by omega), if_pos (show 0 ≤ (i : Int) by omega), if_pos (show (i : Int) < (o.length : Int) by omega)]
    rw [rd_lt (by omega), w64 (by omega) (by omega)]
    refine ih (i + 1) _ (by omega) (by omega) hl (by simpa using ho) ?_
    apply List.ext_getElem?
    intro j
    rw [List.getElem?_take, List.getElem?_take]
    by_cases h1 : j < i
    · have := congrArg (fun x => x[j]?) ht
      simp only [List.getElem?_take, if_pos h1] at this
      rw [if_pos (by omega), if_pos (by omega), List.getElem?_set]
      simp only [Int.toNat_natCast]
      rw [if_neg (by omega), this]
    · by_cases h2 : j = i
      · subst h2
        rw [if_pos (by omega), if_pos (by omega)]
        simp [show j < l.length by omega, show j < o.length by omega]
      · rw [if_neg (by omega), if_neg (by omega)]
theorem toByteS_ev (l : List Int) (hl : l.length ≤ 281474976710656) : Ev (fun k => laws_toByteS.f k l) l := by
  unfold laws_toByteS.f
  simp only [if_pos (show 0 ≤ (l.length : Int) by omega), Int.toNat_natCast, if_pos hl]
  exact toByteS_l0 l l.length 0 _ (by omega) (by omega) (by omega) (by simp) (by simp)
def putVar (n : Nat) : List Int := if 127 < n then ((n % 128 + 128 : Nat) : Int) :: putVar (n / 128) else [(n : Int)]
termination_by n
decreasing_by omega
theorem putVar_small {n : Nat} (h : n ≤ 127) : putVar n = [(n : Int)] := by rw [putVar, if_neg (by omega)]
theorem putVar_big {n : Nat} (h : 127 < n) : putVar n = ((n % 128 + 128 : Nat) : Int) :: putVar (n / 128) := by rw [putVar, if_pos h]
theorem putVar_length_le : ∀ (m n : Nat), n < 128 ^ (m + 1) → (putVar n).length ≤ m + 1 := by
  intro m
  induction m with
  | zero => intro n h; rw [putVar_small (by simpa using Nat.le_of_lt_succ h)]; simp
  | succ m ih =>
    intro n h
    by_cases hn : 127 < n
    · rw [putVar_big hn]
      have := ih (n / 128) (by rw [Nat.div_lt_iff_lt_mul (by omega), ← Nat.pow_succ]; exact h)
      simp; omega
    · rw [putVar_small (by omega)]; simp
theorem putVar_length_64 {n : Nat} (h : n ≤ 18446744073709551615) : (putVar n).length ≤ 10 := putVar_length_le 9 n (by omega)
theorem putVar_bytes : ∀ n, Bytes (putVar n) := by
  intro n
  induction n using Nat.strongRecOn with
  | ind n ih =>
    by_cases hn : 127 < n
    · rw [putVar_big hn]
      intro x hx
      rcases List.mem_cons.1 hx with rfl | hx
      · omega
      · exact ih _ (by omega) x hx
    · rw [putVar_small (by omega)]; exact Bytes.one (by omega) (by omega)
theorem putVar_ne_nil (n : Nat) : putVar n ≠ [] := by
  by_cases hn : 127 < n
  · rw [putVar_big hn]; simp
  · rw [putVar_small (by omega)]; simp
theorem putVar_pos (n : Nat) : 1 ≤ (putVar n).length := by
  have := putVar_ne_nil n
  cases h : putVar n with
  | nil => exact absurd h this
  | cons _ _ => simp
theorem or128 : ∀ x : Fin 256, Go.bits .or .u8 (x.val : Int) 128 = ((x.val % 128 + 128 : Nat) : Int) := by decide +kernel
theorem or128_nat (n : Nat) : Go.bits .or .u8 ((n : Int) % 256) 128 = ((n % 128 + 128 : Nat) : Int) := by
  have := or128 ⟨n % 256, by omega⟩
  simp only at this
  rw [show ((n : Int) % 256) = ((n % 256 : Nat) : Int) by omega, this]
  omega
theorem spec_PutVar_l0 : ∀ (n : Nat) (acc : List Int), acc.length + (putVar n).length ≤ 140737488355328 → Ev (fun k => spec_PutVar.l0 k (n : Int) acc) (acc ++ putVar n) := by
  intro n
  induction n using Nat.strongRecOn with
  | ind n ih =>
    intro acc h
    refine Ev_succ ?_
    simp only [spec_PutVar.l0]
    have hp := putVar_pos n
    by_cases hn : 127 < n
    · simp only [if_pos (show (n : Int) > 127 by omega), if_pos (show acc.length < 140737488355328 by omega)]
      rw [or128_nat, show (n : Int) / 128 = ((n / 128 : Nat) : Int) by omega]
      rw [putVar_big hn] at h
      refine Ev_cast (ih (n / 128) (by omega) _ (by simp at h ⊢; omega)) ?_
      rw [putVar_big hn]; simp
    · simp only [if_neg (show ¬ (n : Int) > 127 by omega), if_pos (show acc.length < 140737488355328 by omega)]
      rw [putVar_small (by omega), show (n : Int) % 256 = n by omega]
      exact Ev.now _
theorem spec_PutVar_ev (n : Nat) (h : n ≤ 18446744073709551615) : Ev (fun k => spec_PutVar.f k (n : Int)) (putVar n) := by
  unfold spec_PutVar.f
  have := putVar_length_64 h
  exact Ev_cast (spec_PutVar_l0 n [] (by simp; omega)) (by simp)
theorem impl_PutVar_l0 : ∀ (n : Nat) (acc : List Int), acc.length + (putVar n).length ≤ 140737488355328 → Ev (fun k => impl_PutVar.l0 k (n : Int) acc) (acc ++ putVar n) := by
  intro n
  induction n using Nat.strongRecOn with
  | ind n ih =>
    intro acc h
    refine Ev_succ ?_
    simp only [impl_PutVar.l0]
    have hp := putVar_pos n
    by_cases hn : 127 < n
    · simp only [if_pos (show (n : Int) > 127 by omega), if_pos (show acc.length < 140737488355328 by omega)]
      rw [or128_nat, show (n : Int) / 128 = ((n / 128 : Nat) : Int) by omega]
      rw [putVar_big hn] at h
      refine Ev_cast (ih (n / 128) (by omega) _ (by simp at h ⊢; omega)) ?_
      rw [putVar_big hn]; simp
    · simp only [if_neg (show ¬ (n : Int) > 127 by omega), if_pos (show acc.length < 140737488355328 by omega)]
      rw [putVar_small (by omega), show (n : Int) % 256 = n by omega]
      exact Ev.now _
theorem impl_PutVar_ev (n : Nat) (h : n ≤ 18446744073709551615) : Ev (fun k => impl_PutVar.f k (n : Int)) (putVar n) := by
  unfold impl_PutVar.f
  have := putVar_length_64 h
  exact Ev_cast (impl_PutVar_l0 n [] (by simp; omega)) (by simp)
def zig (n : Int) : Nat := if n < 0 then (-2 * n - 1).toNat else (2 * n).toNat
def putAll : List Int → List Int
  | [] => []
  | n :: t => putVar (zig n) ++ putAll t
def aggB (c s mn mx : Int) (h : List Int) (f : Bool) : List Int := (if f = true then 1 else 0) :: putAll ([c, s, mn, mx] ++ h)
def smallOk (l : List Int) : Prop := ∀ x ∈ l, -1000000000000000000 ≤ x ∧ x ≤ 1000000000000000000
theorem zig_le {n : Int} (h : -1000000000000000000 ≤ n ∧ n ≤ 1000000000000000000) : zig n ≤ 2000000000000000000 := by
  unfold zig
  split <;> omega
theorem zig_wrap {n : Int} (h : -1000000000000000000 ≤ n ∧ n ≤ 1000000000000000000) : (n < 0 → IntKind.u64.wrap (wrap64 (wrap64 (-2 * n) - 1)) = (zig n : Int)) ∧ (¬ n < 0 → IntKind.u64.wrap (wrap64 (2 * n)) = (zig n : Int)) := by
  constructor
  · intro hn
    rw [w64 (n := -2 * n) (by omega) (by omega), w64 (by omega) (by omega), wrap_u64]
    unfold zig
    rw [if_pos hn]; omega
  · intro hn
    rw [w64 (by omega) (by omega), wrap_u64]
    unfold zig
    rw [if_neg hn]; omega
theorem putAll_length : ∀ l, smallOk l → (putAll l).length ≤ 10 * l.length := by
  intro l
  induction l with
  | nil => intro _; simp [putAll]
  | cons a t ih =>
    intro h
    have h1 := putVar_length_64 (n := zig a) (by have := zig_le (h a (List.mem_cons_self ..)); omega)
    have h2 := ih (fun x hx => h x (List.mem_cons_of_mem _ hx))
    simp only [putAll, List.length_append, List.length_cons]
    omega
theorem aggB_length (c s mn mx : Int) (h : List Int) (f : Bool) (hs : smallOk ([c, s, mn, mx] ++ h)) : (aggB c s mn mx h f).length ≤ 10 * h.length + 41 := by
  have := putAll_length _ hs
  unfold aggB
  simp at this ⊢
  omega
theorem goodAgg_small {c s mn mx : Int} {h : List Int} {f : Bool} (hg : goodAgg c s mn mx h f) : smallOk ([c, s, mn, mx] ++ h) := by
  obtain ⟨hc, h8, hh, ht⟩ := hg
  have hb : (-1000000000000000000 ≤ s ∧ s ≤ 1000000000000000000) ∧ (-1000000000 ≤ mn ∧ mn ≤ 1000000000) ∧ (-1000000000 ≤ mx ∧ mx ≤ 1000000000) := by
    rcases ht with ht | ht
    · omega
    · have v1 := ht.2.1
      have v2 := ht.2.2.1
      unfold valueOk at v1 v2
      rcases ht.2.2.2.2 with hz | hz <;> omega
  intro x hx
  simp only [List.cons_append, List.nil_append, List.mem_cons] at hx
  rcases hx with rfl | rfl | rfl | rfl | hx
  · omega
  · omega
  · omega
  · omega
  · have := hh x hx; omega
theorem spec_l4Bytes_l0 (l : List Int) (hs : smallOk l) (hl : l.length ≤ 1000000) : ∀ (d i : Nat) (acc : List Int), l.length - i = d → i ≤ l.length → acc.length + 10 * d ≤ 100000000 → Ev (fun k => spec_l4Bytes.l0 k acc l (l.length : Int) (i : Int)) (acc ++ putAll (l.drop i)) := by
  intro d
  induction d with
  | zero =>
    intro i acc hd hi ha
    refine Ev_succ ?_
    simp only [spec_l4Bytes.l0]
    simp only [if_neg (show ¬ (i : Int) < (l.length : Int) by omega)]
    rw [List.drop_eq_nil_of_le (by omega)]
    exact Ev_cast (Ev.now _) (by simp [putAll])
  | succ d ih =>
    intro i acc hd hi ha
    refine Ev_succ ?_
    simp only [spec_l4Bytes.l0]
    simp only [if_pos (show (i : Int) < (l.length : Int) by omega), if_pos (show 0 ≤ (i : Int) by omega)]
    rw [rd_lt (by omega), drop_cons (l := l) (i := i) (by omega)]
    have hx := hs (l[i]'(by omega)) (List.getElem_mem _)
    generalize l[i]'(by omega) = x at hx ⊢
    have hz := zig_le hx
    have hp := putVar_length_64 (n := zig x) (by omega)
    obtain ⟨z1, z2⟩ := zig_wrap hx
    have put : Ev (fun k => spec_l4Put.f k acc x) (acc ++ putVar (zig x)) := by
      unfold spec_l4Put.f
      by_cases hn : x < 0
      · simp only [if_pos hn, z1 hn]
        refine Ev.bind (spec_PutVar_ev _ (by omega)) ?_
        simp only [if_pos (show acc.length + (putVar (zig x)).length < 140737488355328 by omega)]
        exact Ev.now _
      · simp only [if_neg hn, z2 hn]
        refine Ev.bind (spec_PutVar_ev _ (by omega)) ?_
        simp only [if_pos (show acc.length + (putVar (zig x)).length < 140737488355328 by omega)]
        exact Ev.now _
    refine Ev.bind put ?_
    rw [w64 (by omega) (by omega)]
    refine Ev_cast (ih (i + 1) _ (by omega) (by omega) (by rw [List.length_append]; omega)) ?_
    simp [putAll]
theorem spec_l4Bytes_ev (c s mn mx : Int) (h : List Int) (f : Bool) (hl : h.length ≤ 100000) (hs : smallOk ([c, s, mn, mx] ++ h)) : Ev (fun k => spec_l4Bytes.f k c s mn mx h f) (aggB c s mn mx h f) := by
  unfold spec_l4Bytes.f
  simp only [Option.bind_some]
  have go : ∀ b : Int, Ev (fun k => spec_l4Bytes.j0 k [b] c s mn mx h f) (b :: putAll ([c, s, mn, mx] ++ h)) := by
    intro b
    refine Ev_succ ?_
    simp only [spec_l4Bytes.j0, Option.bind_some]
    simp only [if_pos (show ([c, s, mn, mx] : List Int).length + h.length < 17592186044416 by simp; omega)]
    have := spec_l4Bytes_l0 ([c, s, mn, mx] ++ h) hs (by simp; omega) ([c, s, mn, mx] ++ h).length 0 [b] (by omega) (by omega) (by simp; omega)
    simpa using this
  cases f with
  | true =>
    simp only [if_true, if_pos (show (0 : Int) < (([0] : List Int).length : Int) by simp)]
    exact go 1
  | false =>
    simp only [Bool.false_eq_true, if_false]
    exact go 0
theorem impl_aggBytes_l0 (l : List Int) (hs : smallOk l) (hl : l.length ≤ 1000000) : ∀ (d i : Nat) (acc : List Int), l.length - i = d → i ≤ l.length → acc.length + 10 * d ≤ 100000000 → Ev (fun k => impl_aggBytes.l0 k acc l (l.length : Int) (i : Int)) (acc ++ putAll (l.drop i)) := by
  intro d
  induction d with
  | zero =>
    intro i acc hd hi ha
    refine Ev_succ ?_
    simp only [impl_aggBytes.l0]
    simp only [if_neg (show ¬ (i : Int) < (l.length : Int) by omega)]
    rw [List.drop_eq_nil_of_le (by omega)]
    exact Ev_cast (Ev.now _) (by simp [putAll])
  | succ d ih =>
    intro i acc hd hi ha
    refine Ev_succ ?_
    simp only [impl_aggBytes.l0]
    simp only [if_pos (show (i : Int) < (l.length : Int) by omega), if_pos (show 0 ≤ (i : Int) by omega)]
    rw [rd_lt (by omega), drop_cons (l := l) (i := i) (by omega)]
    have hx := hs (l[i]'(by omega)) (List.getElem_mem _)
    generalize l[i]'(by omega) = x at hx ⊢
    have hz := zig_le hx
    have hp := putVar_length_64 (n := zig x) (by omega)
    obtain ⟨z1, z2⟩ := zig_wrap hx
    rw [w64 (n := (i : Int) + 1) (by omega) (by omega)]
    have nx := ih (i + 1) (acc ++ putVar (zig x)) (by omega) (by omega) (by rw [List.length_append]; omega)
    by_cases hn : x < 0
    · simp only [if_pos hn, z1 hn]
      refine Ev.bind (impl_PutVar_ev _ (by omega)) ?_
      simp only [if_pos (show acc.length + (putVar (zig x)).length < 140737488355328 by omega)]
      exact Ev_cast nx (by simp [putAll])
    · simp only [if_neg hn, z2 hn]
      refine Ev.bind (impl_PutVar_ev _ (by omega)) ?_
      simp only [if_pos (show acc.length + (putVar (zig x)).length < 140737488355328 by omega)]
      exact Ev_cast nx (by simp [putAll])
theorem impl_aggBytes_ev (c s mn mx : Int) (h : List Int) (f : Bool) (hl : h.length ≤ 100000) (hs : smallOk ([c, s, mn, mx] ++ h)) : Ev (fun k => impl_aggBytes.f k c s mn mx h f) (aggB c s mn mx h f) := by
  unfold impl_aggBytes.f
  simp only [Option.bind_some]
  have go : ∀ b : Int, Ev (fun k => impl_aggBytes.j0 k [b] c s mn mx h f) (b :: putAll ([c, s, mn, mx] ++ h)) := by
    intro b
    refine Ev_succ ?_
    simp only [impl_aggBytes.j0]
    refine Ev.bind (a := [c, s, mn, mx] ++ h) (Ev_some ?_) ?_
    · unfold impl_Agg_numbers.f
      simp only [Option.bind_some]
      rw [if_pos (by simp; omega)]
    have := impl_aggBytes_l0 ([c, s, mn, mx] ++ h) hs (by simp; omega) ([c, s, mn, mx] ++ h).length 0 [b] (by omega) (by omega) (by simp; omega)
    simpa using this
  cases f with
  | true =>
    simp only [if_true, if_pos (show (0 : Int) < (([0] : List Int).length : Int) by simp)]
    exact go 1
  | false =>
    simp only [Bool.false_eq_true, if_false]
    exact go 0
def lcpF (a b : ByteArray) : Nat → Nat → Nat
  | 0, n => n
  | d + 1, n => if bt a (n : Int) = bt b (n : Int) then lcpF a b d (n + 1) else n
def lcp (a b : ByteArray) : Nat := lcpF a b (min a.size b.size) 0
theorem lcpF_le (a b : ByteArray) : ∀ d n, lcpF a b d n ≤ n + d := by
  intro d
  induction d with
  | zero => intro n; exact Nat.le_refl _
  | succ d ih =>
    intro n
    unfold lcpF
    split
    · have := ih (n + 1); omega
    · omega
theorem lcp_le (a b : ByteArray) : lcp a b ≤ a.size ∧ lcp a b ≤ b.size := by
  have := lcpF_le a b (min a.size b.size) 0
  unfold lcp
  omega
theorem lcp_empty (b : ByteArray) : lcp ⟨#[]⟩ b = 0 := by
  have := (lcp_le ⟨#[]⟩ b).1
  have e : (⟨#[]⟩ : ByteArray).size = 0 := rfl
  omega
def aggO (e : S51) : List Int := if e.f2 = 2 then [] else aggB e.f3.f0 e.f3.f1 e.f3.f2 e.f3.f3 e.f3.f4 e.f3.f5
def ent (n : Nat) (e : S51) : List Int := (((((putVar n ++ putVar (e.f0.size - n)) ++ putVar e.f1.toNat) ++ [e.f2 % 256]) ++ putVar (aggO e).length) ++ bytesOf (e.f0.extract n e.f0.size)) ++ aggO e
def blk : ByteArray → List S51 → List Int
  | _, [] => []
  | ah, e :: t => ent (lcp ah e.f0) e ++ blk e.f0 t
/-- what is asked of an entry -/
def eOk (e : S51) : Prop := e.f0.size ≤ 140 ∧ (1 ≤ e.f1 ∧ e.f1 ≤ 1000000000) ∧ (e.f2 ≠ 2 → e.f3.f4.length ≤ 8 ∧ smallOk ([e.f3.f0, e.f3.f1, e.f3.f2, e.f3.f3] ++ e.f3.f4))
theorem eOk_of_good {e : S51} (h : eGood e = true) : eOk e := by
  unfold eGood at h
  have h := of_decide_eq_true h
  obtain ⟨h1, h2, h3⟩ := h
  refine ⟨h1.2, h2, fun hk => ?_⟩
  rcases h3 with h3 | h3
  · exact absurd h3.1 hk
  · exact ⟨by have := h3.2.2.1; omega, goodAgg_small h3.2⟩
theorem aggO_length {e : S51} (h : eOk e) : (aggO e).length ≤ 121 := by
  unfold aggO
  split
  · simp
  · rename_i hk
    obtain ⟨h1, h2⟩ := h.2.2 hk
    have := aggB_length e.f3.f0 e.f3.f1 e.f3.f2 e.f3.f3 e.f3.f4 e.f3.f5 h2
    omega
theorem extract_size (s : ByteArray) (n : Nat) : (s.extract n s.size).size = s.size - n := by
  rw [ByteArray.size_extract]
  omega
/-- how long its parts are -/
theorem ent_parts {e : S51} (h : eOk e) {n : Nat} (hn : n ≤ e.f0.size) : (putVar n).length ≤ 10 ∧ (putVar (e.f0.size - n)).length ≤ 10 ∧ (putVar e.f1.toNat).length ≤ 10 ∧ (putVar (aggO e).length).length ≤ 10 ∧ (bytesOf (e.f0.extract n e.f0.size)).length ≤ 140 ∧ (aggO e).length ≤ 121 := by
  have h1 := h.1
  have h2 := h.2.1
  have h3 := aggO_length h
  refine ⟨putVar_length_64 (by omega), putVar_length_64 (by omega), putVar_length_64 (by omega), putVar_length_64 (by omega), ?_, h3⟩
  rw [bytesOf_length, extract_size]
  omega
theorem ent_length {e : S51} (h : eOk e) {n : Nat} (hn : n ≤ e.f0.size) : (ent n e).length ≤ 400 := by
  obtain ⟨h1, h2, h3, h4, h5, h6⟩ := ent_parts h hn
  unfold ent
  simp only [List.length_append, List.length_singleton]
  omega
theorem blk_length : ∀ (l : List S51) (ah : ByteArray), (∀ e ∈ l, eOk e) → (blk ah l).length ≤ 400 * l.length := by
  intro l
  induction l with
  | nil => intro ah _; simp [blk]
  | cons e t ih =>
    intro ah h
    have h1 := ent_length (h e (List.mem_cons_self ..)) (lcp_le ah e.f0).2
    have h2 := ih e.f0 (fun x hx => h x (List.mem_cons_of_mem _ hx))
    simp only [blk, List.length_append, List.length_cons]
    omega
theorem u64_nat (n : Nat) (h : n ≤ 1000000000000) : IntKind.u64.wrap (n : Int) = (n : Int) := by rw [wrap_u64]; omega
theorem u64_seq {x : Int} (h : 1 ≤ x ∧ x ≤ 1000000000) : IntKind.u64.wrap x = ((x.toNat : Nat) : Int) := by rw [wrap_u64]; omega
theorem spec_l7Block_pre (a b : ByteArray) : ∀ d n, spec_l7Block.pre a b d n = lcpF a b d n := by
  intro d
  induction d with
  | zero => intro n; rfl
  | succ d ih => intro n; unfold spec_l7Block.pre lcpF; rw [ih]
theorem spec_l7Block_lc (a b : ByteArray) : spec_l7Block.lc a b = lcp a b := spec_l7Block_pre a b _ 0
def kyAt (l : List S51) : Nat → ByteArray
  | 0 => ⟨#[]⟩
  | j + 1 => (rd_T51 l (j : Int)).f0
def lastF (ah : ByteArray) : List S51 → ByteArray
  | [] => ah
  | e :: t => lastF e.f0 t
theorem lastF_snoc (x : List S51) (e : S51) : ∀ ah, lastF ah (x ++ [e]) = e.f0 := by
  induction x with
  | nil => intro ah; rfl
  | cons a t ih => intro ah; exact ih a.f0
theorem blk_snoc (x : List S51) (e : S51) : ∀ ah, blk ah (x ++ [e]) = blk ah x ++ ent (lcp (lastF ah x) e.f0) e := by
  induction x with
  | nil => intro ah; simp [blk, lastF]
  | cons a t ih => intro ah; simp only [List.cons_append, blk, lastF, ih, List.append_assoc]
theorem take_snoc (l : List S51) {j : Nat} (h : j < l.length) : l.take (j + 1) = l.take j ++ [rd_T51 l (j : Int)] := by
  rw [rd51_lt h, List.take_succ_eq_append_getElem h]
theorem lastF_take (l : List S51) (j : Nat) (h : j ≤ l.length) : lastF ⟨#[]⟩ (l.take j) = kyAt l j := by
  cases j with
  | zero => rfl
  | succ j => rw [take_snoc l (by omega), lastF_snoc]; rfl
theorem blk_take (l : List S51) {j : Nat} (h : j < l.length) : blk ⟨#[]⟩ (l.take (j + 1)) = blk ⟨#[]⟩ (l.take j) ++ ent (lcp (kyAt l j) (rd_T51 l (j : Int)).f0) (rd_T51 l (j : Int)) := by
  rw [take_snoc l h, blk_snoc, lastF_take l j (by omega)]
theorem mem_rd {l : List S51} {P : S51 → Prop} (hm : ∀ e ∈ l, P e) {j : Nat} (h : j < l.length) : P (rd_T51 l (j : Int)) := by
  rw [rd51_lt h]; exact hm _ (List.getElem_mem _)
theorem impl_shared_l0 (a b : ByteArray) (hs : b.size ≤ 1000000) : ∀ (d n : Nat), min a.size b.size - n = d → n ≤ min a.size b.size → Ev (fun k => impl_shared.l0 k a b (n : Int)) ((lcpF a b d n : Nat) : Int) := by
  have hmn : mn (a.size : Int) (b.size : Int) = ((min a.size b.size : Nat) : Int) := by
    unfold mn
    split <;> omega
  intro d
  induction d with
  | zero =>
    intro n hd hn
    refine Ev_succ ?_
    simp only [impl_shared.l0, hmn]
    simp only [if_neg (show ¬ (n : Int) < ((min a.size b.size : Nat) : Int) by omega)]
    exact Ev.now _
  | succ d ih =>
    intro n hd hn
    refine Ev_succ ?_
    simp only [impl_shared.l0, hmn]
    simp only [if_pos (show (n : Int) < ((min a.size b.size : Nat) : Int) by omega), if_pos (show 0 ≤ (n : Int) by omega), if_pos (show (n : Int) < (a.size : Int) by omega), if_pos (show (n : Int) < (b.size : Int) by omega)]
    unfold lcpF
    by_cases hb : bt a (n : Int) = bt b (n : Int)
    · simp only [if_pos hb]
      rw [w64 (by omega) (by omega)]
      exact ih (n + 1) (by omega) (by omega)
    · simp only [if_neg hb]
      exact Ev.now _
theorem impl_shared_ev (a b : ByteArray) (hs : b.size ≤ 1000000) : Ev (fun k => impl_shared.f k a b) ((lcp a b : Nat) : Int) := impl_shared_l0 a b hs (min a.size b.size) 0 (by omega) (by omega)
theorem spec_l7Block_ent (e : S51) (he : eOk e) {n : Nat} (hn : n ≤ e.f0.size) : Ev (fun k => spec_l7Block.ent k n e) (ent n e) := by
  obtain ⟨p1, p2, p3, p4, p5, p6⟩ := ent_parts he hn
  have hs := he.1
  have hq := he.2.1
  have ha : Ev (fun k => spec_l7Block.agg k e) (aggO e) := by
    unfold spec_l7Block.agg aggO
    by_cases hk : e.f2 = 2
    · simp only [if_pos hk]; exact Ev.now _
    · simp only [if_neg hk]
      obtain ⟨h1, h2⟩ := he.2.2 hk
      exact spec_l4Bytes_ev _ _ _ _ _ _ (by omega) h2
  unfold spec_l7Block.ent
  refine Ev.bind ha ?_
  rw [show (e.f0.size : Int) - (n : Int) = ((e.f0.size - n : Nat) : Int) by omega, u64_seq hq]
  refine Ev.bind (spec_PutVar_ev n (by omega)) ?_
  refine Ev.bind (spec_PutVar_ev _ (by omega)) ?_
  refine Ev.bind (spec_PutVar_ev _ (by omega)) ?_
  refine Ev.bind (spec_PutVar_ev _ (by omega)) ?_
  simp only [if_pos (show e.f0.size ≤ 1000000 ∧ (aggO e).length ≤ 1000000 ∧ (putVar n).length ≤ 100 ∧ (putVar (e.f0.size - n)).length ≤ 100 ∧ (putVar e.f1.toNat).length ≤ 100 ∧ (putVar (aggO e).length).length ≤ 100 from ⟨by omega, by omega, by omega, by omega, by omega, by omega⟩)]
  exact Ev.now _
theorem spec_l7Block_run (m : List S51) (hm : ∀ e ∈ m, eOk e) (hl : m.length ≤ 1000000) : ∀ j, j ≤ m.length → Ev (fun k => spec_l7Block.run k m j) (blk ⟨#[]⟩ (m.take j)) := by
  intro j
  induction j with
  | zero => intro _; exact Ev.now _
  | succ j ih =>
    intro hj
    have he := mem_rd hm (j := j) (by omega)
    have hlen := blk_length (m.take j) ⟨#[]⟩ (fun e h => hm e (List.mem_of_mem_take h))
    rw [List.length_take] at hlen
    rw [blk_take m (by omega)]
    simp only [spec_l7Block.run]
    refine Ev.bind (ih (by omega)) ?_
    have hk : spec_l7Block.key m j = kyAt m j := by cases j <;> rfl
    have hle := (lcp_le (kyAt m j) (rd_T51 m (j : Int)).f0).2
    unfold spec_l7Block.step
    rw [hk]
    rw [spec_l7Block_lc]
    refine Ev.bind (spec_l7Block_ent _ he hle) ?_
    simp only [if_pos (show (blk ⟨#[]⟩ (m.take j)).length ≤ 1000000000 by omega)]
    exact Ev.now _
theorem spec_l7Block_ev (m : List S51) (hm : ∀ e ∈ m, eOk e) (hl : m.length ≤ 1000000) : Ev (fun k => spec_l7Block.f k m) (blk ⟨#[]⟩ m) := by
  unfold spec_l7Block.f
  simp only [if_pos hl]
  have := spec_l7Block_run m hm hl m.length (Nat.le_refl _)
  rwa [List.take_length] at this
theorem impl_blockBytes_ent (e : S51) (he : eOk e) {n : Nat} (hn : n ≤ e.f0.size) : Ev (fun k => impl_blockBytes.ent k n e) (ent n e) := by
  obtain ⟨p1, p2, p3, p4, p5, p6⟩ := ent_parts he hn
  have hs := he.1
  have hq := he.2.1
  have ha : Ev (fun k => impl_blockBytes.agg k e) (aggO e) := by
    unfold impl_blockBytes.agg aggO
    by_cases hk : e.f2 = 2
    · simp only [if_pos hk]; exact Ev.now _
    · simp only [if_neg hk]
      obtain ⟨h1, h2⟩ := he.2.2 hk
      exact impl_aggBytes_ev _ _ _ _ _ _ (by omega) h2
  unfold impl_blockBytes.ent
  refine Ev.bind ha ?_
  rw [show (e.f0.size : Int) - (n : Int) = ((e.f0.size - n : Nat) : Int) by omega, u64_seq hq]
  refine Ev.bind (impl_PutVar_ev n (by omega)) ?_
  refine Ev.bind (impl_PutVar_ev _ (by omega)) ?_
  refine Ev.bind (impl_PutVar_ev _ (by omega)) ?_
  refine Ev.bind (impl_PutVar_ev _ (by omega)) ?_
  simp only [if_pos (show e.f0.size ≤ 1000000 ∧ (aggO e).length ≤ 1000000 ∧ (putVar n).length ≤ 100 ∧ (putVar (e.f0.size - n)).length ≤ 100 ∧ (putVar e.f1.toNat).length ≤ 100 ∧ (putVar (aggO e).length).length ≤ 100 from ⟨by omega, by omega, by omega, by omega, by omega, by omega⟩)]
  exact Ev.now _
theorem impl_blockBytes_run (m : List S51) (hm : ∀ e ∈ m, eOk e) (hl : m.length ≤ 1000000) : ∀ j, j ≤ m.length → Ev (fun k => impl_blockBytes.run k m j) (blk ⟨#[]⟩ (m.take j)) := by
  intro j
  induction j with
  | zero => intro _; exact Ev.now _
  | succ j ih =>
    intro hj
    have he := mem_rd hm (j := j) (by omega)
    have hlen := blk_length (m.take j) ⟨#[]⟩ (fun e h => hm e (List.mem_of_mem_take h))
    rw [List.length_take] at hlen
    rw [blk_take m (by omega)]
    simp only [impl_blockBytes.run]
    refine Ev.bind (ih (by omega)) ?_
    have hk : impl_blockBytes.key m j = kyAt m j := by cases j <;> rfl
    have hle := (lcp_le (kyAt m j) (rd_T51 m (j : Int)).f0).2
    unfold impl_blockBytes.step
    rw [hk]
    have hn : Ev (fun k => impl_blockBytes.lcn k j (kyAt m j) (rd_T51 m (j : Int)).f0) ((lcp (kyAt m j) (rd_T51 m (j : Int)).f0 : Nat) : Int) := by
      unfold impl_blockBytes.lcn
      by_cases h0 : j = 0
      · subst h0
        simp only [if_true]
        rw [show kyAt m 0 = ⟨#[]⟩ from rfl, lcp_empty]
        exact Ev.now _
      · simp only [if_neg h0]
        exact impl_shared_ev _ _ (by have := he.1; omega)
    refine Ev.bind hn ?_
    simp only [if_pos (show 0 ≤ ((lcp (kyAt m j) (rd_T51 m (j : Int)).f0 : Nat) : Int) ∧ ((lcp (kyAt m j) (rd_T51 m (j : Int)).f0 : Nat) : Int) ≤ ((rd_T51 m (j : Int)).f0.size : Int) from ⟨by omega, by omega⟩), Int.toNat_natCast]
    refine Ev.bind (impl_blockBytes_ent _ he hle) ?_
    simp only [if_pos (show (blk ⟨#[]⟩ (m.take j)).length ≤ 1000000000 by omega)]
    exact Ev.now _
theorem impl_blockBytes_ev (m : List S51) (hm : ∀ e ∈ m, eOk e) (hl : m.length ≤ 1000000) : Ev (fun k => impl_blockBytes.f k m) (blk ⟨#[]⟩ m) := by
  unfold impl_blockBytes.f
  simp only [if_pos hl]
  have := impl_blockBytes_run m hm hl m.length (Nat.le_refl _)
  rwa [List.take_length] at this
def kys (m : List S51) : List ByteArray := slices_Compact_string_string.cp (m.map (·.f0))
theorem ba_toList_loop (s : ByteArray) : ∀ (d i : Nat) (r : List UInt8), s.size - i = d → i ≤ s.size → ByteArray.toList.loop s i r = r.reverse ++ s.data.toList.drop i := by
  intro d
  induction d with
  | zero =>
    intro i r hd hi
    rw [ByteArray.toList.loop, if_neg (by omega), List.drop_eq_nil_of_le (by simp; show s.data.size ≤ i; have : s.size = s.data.size := rfl; omega)]
    simp
  | succ d ih =>
    intro i r hd hi
    have hs : s.size = s.data.size := rfl
    rw [ByteArray.toList.loop, if_pos (by omega), ih (i + 1) _ (by omega) (by omega)]
    have : s.data.toList.drop i = s.get! i :: s.data.toList.drop (i + 1) := by
      rw [List.drop_eq_getElem_cons (by simp; omega)]
      congr 1
      simp [ByteArray.get!]
      rw [getElem!_pos s.data i (by omega)]
    rw [this]; simp
theorem ba_toList (s : ByteArray) : s.toList = s.data.toList := by
  unfold ByteArray.toList
  rw [ba_toList_loop s s.size 0 [] (by omega) (by omega)]
  simp
def kStep (m : List S51) (i : Nat) : List ByteArray := if i = 0 ∨ ((rd_T51 m (i : Int)).f0).data.toList ≠ ((rd_T51 m ((i - 1 : Nat) : Int)).f0).data.toList then [(rd_T51 m (i : Int)).f0] else []
def kFrom (m : List S51) : Nat → Nat → List ByteArray
  | 0, _ => []
  | d + 1, i => kStep m i ++ kFrom m d (i + 1)
theorem kFrom_range (m : List S51) (p : Nat → Bool) (g : Nat → ByteArray) (hp : ∀ i, i < m.length → p i = decide (i = 0 ∨ ((rd_T51 m (i : Int)).f0).data.toList ≠ ((rd_T51 m ((i - 1 : Nat) : Int)).f0).data.toList)) (hg : ∀ i, i < m.length → g i = (rd_T51 m (i : Int)).f0) : ∀ (d i : Nat), i + d = m.length → ((List.range' i d).filter p).map g = kFrom m d i := by
  intro d
  induction d with
  | zero => intro i _; rfl
  | succ d ih =>
    intro i h
    rw [List.range'_succ, List.filter_cons, kFrom, ← ih (i + 1) (by omega)]
    unfold kStep
    rw [hp i (by omega)]
    by_cases hc : i = 0 ∨ ((rd_T51 m (i : Int)).f0).data.toList ≠ ((rd_T51 m ((i - 1 : Nat) : Int)).f0).data.toList
    · rw [if_pos hc, if_pos (by simpa using hc), List.map_cons, hg i (by omega)]
      rfl
    · rw [if_neg hc, if_neg (by simpa using hc)]
      rfl
theorem kys_eq (m : List S51) : kys m = kFrom m m.length 0 := by
  unfold kys slices_Compact_string_string.cp Lib.compact Lib.compactUpTo
  have hl : (slices_Compact_string_string.dl (m.map (·.f0))).length = m.length := by simp [slices_Compact_string_string.dl]
  have hx : ∀ i (hi : i < m.length), (slices_Compact_string_string.dl (m.map (·.f0))).toArray[i]! = ((rd_T51 m (i : Int)).f0).data.toList := by
    intro i hi
    rw [rd51_lt hi]
    simp [slices_Compact_string_string.dl, hi]
  rw [hl, List.map_map, List.range_eq_range']
  refine kFrom_range m _ _ ?_ ?_ m.length 0 (by omega)
  · intro i hi
    unfold Lib.keeps
    rw [decide_eq_decide]
    by_cases h0 : i = 0
    · simp [h0]
    · rw [hx i hi, hx (i - 1) (by omega)]
  · intro i hi
    simp only [Function.comp]
    rw [hx i hi]
theorem kFrom_mem (m : List S51) : ∀ (d i : Nat), i + d ≤ m.length → ∀ s ∈ kFrom m d i, ∃ e ∈ m, s = e.f0 := by
  intro d
  induction d with
  | zero => intro i _ s hs; cases hs
  | succ d ih =>
    intro i h s hs
    rcases List.mem_append.1 hs with hs | hs
    · unfold kStep at hs
      split at hs
      · rw [List.mem_singleton] at hs
        rw [rd51_lt (by omega)] at hs
        exact ⟨_, List.getElem_mem _, hs⟩
      · cases hs
    · exact ih (i + 1) (by omega) s hs
theorem kFrom_len (m : List S51) : ∀ (d i : Nat), (kFrom m d i).length ≤ d := by
  intro d
  induction d with
  | zero => intro i; simp [kFrom]
  | succ d ih =>
    intro i
    have := ih (i + 1)
    simp only [kFrom, List.length_append]
    unfold kStep
    split <;> simp <;> omega
theorem kys_len (m : List S51) : (kys m).length ≤ m.length := by rw [kys_eq]; exact kFrom_len m _ _
theorem kys_mem (m : List S51) : ∀ s ∈ kys m, ∃ e ∈ m, s = e.f0 := by rw [kys_eq]; exact kFrom_mem m _ _ (by omega)
theorem spec_l7Keys_l0 (m : List S51) (hl : m.length ≤ 1000000) : ∀ (d i : Nat) (acc : List ByteArray), m.length - i = d → i ≤ m.length → acc.length ≤ i → Ev (fun k => spec_l7Keys.l0 k m acc m (m.length : Int) (i : Int)) (acc ++ kFrom m d i) := by
  intro d
  induction d with
  | zero =>
    intro i acc hd hi ha
    refine Ev_succ ?_
    simp only [spec_l7Keys.l0]
    simp only [if_neg (show ¬ (i : Int) < (m.length : Int) by omega)]
    exact Ev_cast (Ev.now _) (by simp [kFrom])
  | succ d ih =>
    intro i acc hd hi ha
    refine Ev_succ ?_
    simp only [spec_l7Keys.l0]
    simp only [if_pos (show (i : Int) < (m.length : Int) by omega), if_pos (show 0 ≤ (i : Int) by omega), if_pos (show acc.length < 8796093022208 by omega)]
    rw [w64 (n := (i : Int) + 1) (by omega) (by omega)]
    have push : kStep m i = [(rd_T51 m (i : Int)).f0] → Ev (fun k => spec_l7Keys.l0 k m (acc ++ [(rd_T51 m (i : Int)).f0]) m (m.length : Int) ((i : Int) + 1)) (acc ++ kFrom m (d + 1) i) := by
      intro hk
      refine Ev_cast (ih (i + 1) _ (by omega) (by omega) (by simp; omega)) ?_
      rw [kFrom, hk, List.append_assoc]
    by_cases h0 : i = 0
    · simp only [if_pos (show (i : Int) = 0 by omega)]
      exact push (by unfold kStep; rw [if_pos (.inl h0)])
    · simp only [if_neg (show ¬ (i : Int) = 0 by omega)]
      rw [w64 (n := (i : Int) - 1) (by omega) (by omega), show (i : Int) - 1 = ((i - 1 : Nat) : Int) by omega]
      simp only [if_pos (show 0 ≤ ((i - 1 : Nat) : Int) by omega), if_pos (show ((i - 1 : Nat) : Int) < (m.length : Int) by omega)]
      rw [ba_toList, ba_toList]
      by_cases he : ((rd_T51 m ((i - 1 : Nat) : Int)).f0).data.toList = ((rd_T51 m (i : Int)).f0).data.toList
      · simp only [if_pos he]
        refine Ev_cast (ih (i + 1) acc (by omega) (by omega) (by omega)) ?_
        rw [kFrom]
        unfold kStep
        rw [if_neg (by intro h; rcases h with h | h; exact h0 h; exact h he.symm)]
        rfl
      · simp only [if_neg he]
        exact push (by unfold kStep; rw [if_pos (.inr (fun e => he e.symm))])
theorem spec_l7Keys_ev (m : List S51) (hl : m.length ≤ 1000000) : Ev (fun k => spec_l7Keys.f k m) (kys m) := by
  unfold spec_l7Keys.f
  rw [kys_eq]
  have := spec_l7Keys_l0 m hl m.length 0 [] (by omega) (by omega) (by simp)
  simpa using this
theorem impl_keysOf_l0 (m : List S51) (hl : m.length ≤ 1000000) : ∀ (d i : Nat) (acc : List ByteArray), m.length - i = d → i ≤ m.length → acc = (m.map (·.f0)).take i → Ev (fun k => impl_keysOf.l0 k acc m (m.length : Int) (i : Int)) (kys m) := by
  intro d
  induction d with
  | zero =>
    intro i acc hd hi ha
    refine Ev_succ ?_
    simp only [impl_keysOf.l0]
    simp only [if_neg (show ¬ (i : Int) < (m.length : Int) by omega)]
    rw [List.take_of_length_le (by simp; omega)] at ha
    subst ha
    refine Ev.bind (a := kys m) (Ev_some ?_) (Ev.now _)
    unfold slices_Compact_string_string.f
    rw [if_pos (by simp; omega)]
    rfl
  | succ d ih =>
    intro i acc hd hi ha
    refine Ev_succ ?_
    simp only [impl_keysOf.l0]
    have hal : acc.length = i := by rw [ha, List.length_take]; simp; omega
    simp only [if_pos (show (i : Int) < (m.length : Int) by omega), if_pos (show 0 ≤ (i : Int) by omega), if_pos (show acc.length < 8796093022208 by omega)]
    rw [w64 (n := (i : Int) + 1) (by omega) (by omega), rd51_lt (by omega)]
    refine ih (i + 1) _ (by omega) (by omega) ?_
    rw [List.take_succ_eq_append_getElem (by simp; omega), ← ha]
    simp
theorem impl_keysOf_ev (m : List S51) (hl : m.length ≤ 1000000) : Ev (fun k => impl_keysOf.f k m) (kys m) := impl_keysOf_l0 m hl m.length 0 [] (by omega) (by omega) (by simp)
def tN (m : List S51) : Nat := (m.length + 3) / 4
def chk (m : List S51) (j : Nat) : List S51 := (m.drop (4 * j)).take 4
def lastK (m : List S51) (j : Nat) : ByteArray := (rd_T51 (chk m j) (((chk m j).length : Int) - 1)).f0
def cb (m : List S51) (j : Nat) : List Int := blk ⟨#[]⟩ (chk m j)
def szd (s : ByteArray) : List Int := putVar s.size ++ bytesOf s
def outO (m : List S51) : Nat → List Int
  | 0 => []
  | j + 1 => outO m j ++ cb m j
def outI (m : List S51) : Nat → List Int
  | 0 => []
  | j + 1 => ((outI m j ++ szd (lastK m j)) ++ putVar (outO m j).length) ++ putVar (cb m j).length
def fBits (m : List S51) (p : Int) : List Int := setKeys (waysOf p) (List.replicate (bytesFor (kys m).length p) 0) (kys m)
def tBody (m : List S51) (p : Int) : List Int := ((outO m (tN m) ++ ((waysOf p : Int) % 256 :: fBits m p)) ++ outI m (tN m)) ++ ((fixedB (outO m (tN m)).length 4 ++ fixedB ((outO m (tN m)).length + (fBits m p).length + 1) 4) ++ fixedB m.length 4)
def tab (m : List S51) (p : Int) : List Int := (tBody m p ++ fixedB (crcOf (tBody m p)).toNat 4) ++ [84, 66, 76, 49]
theorem fBits_length (m : List S51) (p : Int) : 1 ≤ (fBits m p).length ∧ (fBits m p).length ≤ 200 := by
  unfold fBits
  rw [setKeys_length, List.length_replicate]
  exact bytesFor_range _ _
theorem crcOf_range (l : List Int) : 0 ≤ crcOf l ∧ crcOf l < 4294967296 := bits_range32 _ _ _
section
variable {m : List S51}
theorem chk_length (m : List S51) (j : Nat) : (chk m j).length = min 4 (m.length - 4 * j) := by unfold chk; rw [List.length_take, List.length_drop]
theorem chk_mem {m : List S51} {j : Nat} {e : S51} (h : e ∈ chk m j) : e ∈ m := List.mem_of_mem_drop (List.mem_of_mem_take h)
theorem lastK_eq {j : Nat} (hj : j < tN m) : ∃ (h : min (4 * j + 4) m.length - 1 < m.length), lastK m j = (m[min (4 * j + 4) m.length - 1]'h).f0 := by
  unfold tN at hj
  have hl := chk_length m j
  refine ⟨by omega, ?_⟩
  unfold lastK
  rw [show (((chk m j).length : Int) - 1) = (((chk m j).length - 1 : Nat) : Int) by omega, rd51_lt (by omega)]
  have e : (chk m j)[(chk m j).length - 1]'(by omega) = m[4 * j + ((chk m j).length - 1)]'(by omega) := by
    simp [chk]
  rw [e]
  congr 2
  omega
theorem lastK_size (hm : ∀ e ∈ m, eOk e) {j : Nat} (hj : j < tN m) : (lastK m j).size ≤ 140 := by
  obtain ⟨h, e⟩ := lastK_eq hj
  rw [e]
  exact (hm _ (List.getElem_mem h)).1
theorem cb_length (hm : ∀ e ∈ m, eOk e) (j : Nat) : (cb m j).length ≤ 1600 := by
  have := blk_length (chk m j) ⟨#[]⟩ (fun e he => hm e (chk_mem he))
  have := chk_length m j
  unfold cb
  omega
theorem outO_length (hm : ∀ e ∈ m, eOk e) : ∀ j, (outO m j).length ≤ 1600 * j := by
  intro j
  induction j with
  | zero => simp [outO]
  | succ j ih =>
    have := cb_length hm j
    simp only [outO, List.length_append]
    omega
theorem szd_length {s : ByteArray} (h : s.size ≤ 140) : (szd s).length ≤ 150 := by
  have := putVar_length_64 (n := s.size) (by omega)
  unfold szd
  rw [List.length_append, bytesOf_length]
  omega
theorem outI_length (hm : ∀ e ∈ m, eOk e) (hl : m.length ≤ 400) : ∀ j, j ≤ tN m → (outI m j).length ≤ 170 * j := by
  intro j
  induction j with
  | zero => intro _; simp [outI]
  | succ j ih =>
    intro hj
    have h1 := ih (by omega)
    have h2 := szd_length (lastK_size hm (j := j) (by omega))
    have h3 := outO_length hm j
    have h4 := cb_length hm j
    have h5 : tN m ≤ 100 := by unfold tN; omega
    have h6 := putVar_length_64 (n := (outO m j).length) (by omega)
    have h7 := putVar_length_64 (n := (cb m j).length) (by omega)
    simp only [outI, List.length_append]
    omega
end
theorem spec_l7Build_run (m : List S51) (hm : ∀ e ∈ m, eOk e) (hl : m.length ≤ 100) : ∀ j, j ≤ tN m → Ev (fun k => spec_l7Build.run k m j) (outO m j, outI m j) := by
  have hN : tN m ≤ 25 := by unfold tN; omega
  intro j
  induction j with
  | zero => intro _; exact Ev.now _
  | succ j ih =>
    intro hj
    obtain ⟨hx, hk⟩ := lastK_eq (m := m) (j := j) (by omega)
    have hky : spec_l7Build.ky m j = lastK m j := by unfold spec_l7Build.ky; rw [rd51_lt hx, hk]
    have hks := lastK_size hm (j := j) (by omega)
    have hb := cb_length hm j
    have h3 := outO_length hm j
    have h4 := outI_length hm (by omega) j (by omega)
    simp only [spec_l7Build.run]
    refine Ev.bind (ih (by omega)) ?_
    unfold spec_l7Build.step
    rw [show spec_l7Build.ch m j = chk m j from rfl, hky]
    refine Ev.bind (spec_l7Block_ev (chk m j) (fun e he => hm e (chk_mem he)) (by rw [chk_length]; omega)) ?_
    simp only [outO, outI]
    unfold cb szd
    unfold cb at hb
    generalize lastK m j = s at hks ⊢
    generalize blk ⟨#[]⟩ (chk m j) = b at hb ⊢
    have p1 := putVar_length_64 (n := s.size) (by omega)
    have p2 := putVar_length_64 (n := (outO m j).length) (by omega)
    have p3 := putVar_length_64 (n := b.length) (by omega)
    refine Ev.bind (spec_PutVar_ev _ (by omega)) ?_
    refine Ev.bind (spec_PutVar_ev _ (by omega)) ?_
    refine Ev.bind (spec_PutVar_ev _ (by omega)) ?_
    simp only [if_pos (show b.length ≤ 1000000 ∧ (putVar s.size).length ≤ 100 ∧ s.size ≤ 1000000 ∧ (putVar (outO m j).length).length ≤ 100 ∧ (putVar b.length).length ≤ 100 ∧ (outO m j).length ≤ 1000000000 ∧ (outI m j).length ≤ 1000000000 from ⟨by omega, by omega, by omega, by omega, by omega, by omega, by omega⟩)]
    exact Ev_cast (Ev.now _) (by simp only [List.append_assoc])
theorem spec_l7Build_ev (m : List S51) (hm : ∀ e ∈ m, eOk e) (hl : m.length ≤ 100) (p : Int) (hp : 1 ≤ p ∧ p ≤ 20) : Ev (fun k => spec_l7Build.f k m p) (tab m p) := by
  have hN : tN m ≤ 25 := by unfold tN; omega
  have hO := outO_length hm (tN m)
  have hI := outI_length hm (by omega) (tN m) (Nat.le_refl _)
  have hF := fBits_length m p
  have hW := waysOf_range p
  unfold spec_l7Build.f
  simp only [if_pos (show m.length ≤ 1000 by omega)]
  refine Ev.bind (spec_l7Build_run m hm hl (tN m) (Nat.le_refl _)) ?_
  unfold spec_l7Build.tail
  refine Ev.bind (spec_l7Keys_ev m (by omega)) ?_
  have hkl := kys_len m
  refine Ev.bind (spec_l6Filter_ev (kys m) (fun s hs => by obtain ⟨e, he, rfl⟩ := kys_mem m s hs; have := (hm e he).1; omega) (by omega) p hp) ?_
  have e0 : setKeys (waysOf p) (List.replicate (bytesFor (kys m).length p) 0) (kys m) = fBits m p := rfl
  rw [e0]
  unfold tab tBody
  generalize outO m (tN m) = o at hO ⊢
  generalize outI m (tN m) = ix at hI ⊢
  generalize fBits m p = b at hF ⊢
  generalize waysOf p = W at hW ⊢
  refine Ev.bind (spec_l1Fixed_ev o.length 4 (by omega)) ?_
  have f1 := fixedB_length 4 o.length
  have f2 := fixedB_length 4 (o.length + b.length + 1)
  have f3 := fixedB_length 4 m.length
  simp only [show o.length + 1 + b.length = o.length + b.length + 1 by omega]
  refine Ev.bind (spec_l1Fixed_ev (o.length + b.length + 1) 4 (by omega)) ?_
  refine Ev.bind (spec_l1Fixed_ev m.length 4 (by omega)) ?_
  simp only [if_pos (show o.length ≤ 1000000000 ∧ b.length ≤ 1000000 ∧ ix.length ≤ 1000000000 ∧ (fixedB o.length 4).length ≤ 100 ∧ (fixedB (o.length + b.length + 1) 4).length ≤ 100 ∧ (fixedB m.length 4).length ≤ 100 from ⟨by omega, by omega, by omega, by omega, by omega, by omega⟩)]
  have eb : (((((o ++ [(W : Int) % 256]) ++ b) ++ ix) ++ fixedB o.length 4) ++ fixedB (o.length + b.length + 1) 4) ++ fixedB m.length 4 = ((o ++ ((W : Int) % 256 :: b)) ++ ix) ++ ((fixedB o.length 4 ++ fixedB (o.length + b.length + 1) 4) ++ fixedB m.length 4) := by simp
  rw [eb]
  have lb : (((o ++ ((W : Int) % 256 :: b)) ++ ix) ++ ((fixedB o.length 4 ++ fixedB (o.length + b.length + 1) 4) ++ fixedB m.length 4)).length ≤ 100000 := by
    rw [List.length_append, List.length_append, List.length_append, List.length_append, List.length_append, List.length_cons]
    omega
  generalize ((o ++ ((W : Int) % 256 :: b)) ++ ix) ++ ((fixedB o.length 4 ++ fixedB (o.length + b.length + 1) 4) ++ fixedB m.length 4) = q at lb ⊢
  refine Ev.bind (spec_l1Crc_ev q (by omega)) ?_
  have hc := crcOf_range q
  rw [w64 (by omega) (by omega), show crcOf q = (((crcOf q).toNat : Nat) : Int) by omega]
  refine Ev.bind (spec_l1Fixed_ev (crcOf q).toNat 4 (by omega)) ?_
  have f4 := fixedB_length 4 (crcOf q).toNat
  simp only [Int.toNat_natCast]
  simp only [if_pos (show (fixedB (crcOf q).toNat 4).length ≤ 100 by omega)]
  exact Ev.now _
theorem Ev_all {α : Type} (g : Nat → Nat → Option α) (r : Nat → α) (h : ∀ n, Ev (fun k => g k n) (r n)) : ∀ M : Nat, ∃ K, ∀ k, K ≤ k → ∀ n, n < M → g k n = some (r n) := by
  intro M
  induction M with
  | zero => exact ⟨0, fun _ _ n hn => absurd hn (Nat.not_lt_zero n)⟩
  | succ M ih =>
    obtain ⟨K, hK⟩ := ih
    obtain ⟨J, hJ⟩ := h M
    refine ⟨max K J, fun k hk n hn => ?_⟩
    by_cases e : n < M
    · exact hK k (by omega) n e
    · obtain rfl : n = M := by omega
      exact hJ k (by omega)
theorem impl_sized_ev (s : ByteArray) (h : s.size ≤ 140) : Ev (fun k => impl_sized.f k s) (szd s) := by
  unfold impl_sized.f szd
  rw [u64_nat s.size (by omega)]
  refine Ev.bind (impl_PutVar_ev _ (by omega)) ?_
  have p1 := putVar_length_64 (n := s.size) (by omega)
  simp only [if_pos (show (putVar s.size).length + s.size < 140737488355328 by omega)]
  exact Ev.now _
theorem impl_fixed_ev (n : Nat) (h : n < 4294967296) : Ev (fun k => impl_fixed.f k (n : Int)) (fixedB n 4) := by
  unfold impl_fixed.f
  refine Ev.bind (impl_PutFixed_ev (n : Int) 4 (by omega)) ?_
  unfold putFixed
  rw [if_pos ⟨by omega, by omega, by omega, fun _ => by rw [Int.toNat_natCast]; exact Nat.div_eq_of_lt h⟩]
  exact Ev.now _
theorem impl_table_run (m : List S51) (hm : ∀ e ∈ m, eOk e) (k : Nat) (hl : m.length ≤ 100) (h1 : ∀ j, j < tN m → impl_blockBytes.f k (chk m j) = some (cb m j)) (h2 : ∀ j, j < tN m → impl_sized.f k (lastK m j) = some (szd (lastK m j))) (h3 : ∀ n, n < impl_table.M → impl_PutVar.f k (n : Int) = some (putVar n)) : ∀ j, j ≤ tN m → impl_table.run k m (List.range j) = (outO m j, outI m j) := by
  intro j
  induction j with
  | zero => intro _; rfl
  | succ j ih =>
    intro hj
    have hM : impl_table.M = 1000000000 := rfl
    have hO := outO_length hm j
    have hb := cb_length hm j
    have hN : tN m ≤ 25 := by unfold tN; omega
    have e1 : impl_table.bb k m j = cb m j := by
      unfold impl_table.bb
      rw [show impl_table.ch m j = chk m j from rfl, h1 j (by omega)]
      rfl
    have e2 : impl_table.ss k m j = szd (lastK m j) := by
      unfold impl_table.ss
      rw [show impl_table.ky m j = lastK m j from rfl, h2 j (by omega)]
      rfl
    have e3 : ∀ n, n < impl_table.M → impl_table.pv k n = putVar n := by
      intro n hn
      unfold impl_table.pv
      rw [h3 n hn]
      rfl
    rw [List.range_succ, impl_table.run_snoc, ih (by omega)]
    unfold impl_table.step
    simp only [e1, e2, e3 (outO m j).length (by omega), e3 (cb m j).length (by omega), outO, outI]
theorem impl_table_ev (m : List S51) (hm : ∀ e ∈ m, eOk e) (h0 : 1 ≤ m.length) (hl : m.length ≤ 100) (p : Int) (hp : 1 ≤ p ∧ p ≤ 20) : Ev (fun k => impl_table.f k m p) (tab m p) := by
  have hN : tN m ≤ 25 := by unfold tN; omega
  have hM : impl_table.M = 1000000000 := rfl
  obtain ⟨K1, hK1⟩ := Ev_all (fun k j => impl_blockBytes.f k (chk m j)) (fun j => cb m j) (fun j => impl_blockBytes_ev (chk m j) (fun e he => hm e (chk_mem he)) (by rw [chk_length]; omega)) (tN m)
  obtain ⟨K2, hK2⟩ : ∃ K, ∀ k, K ≤ k → ∀ j, j < tN m → impl_sized.f k (lastK m j) = some (szd (lastK m j)) := by
    have : ∀ M, M ≤ tN m → ∃ K, ∀ k, K ≤ k → ∀ j, j < M → impl_sized.f k (lastK m j) = some (szd (lastK m j)) := by
      intro M
      induction M with
      | zero => intro _; exact ⟨0, fun _ _ n hn => absurd hn (Nat.not_lt_zero n)⟩
      | succ M ih =>
        intro hM2
        obtain ⟨K, hK⟩ := ih (by omega)
        obtain ⟨J, hJ⟩ := impl_sized_ev (lastK m M) (lastK_size hm (by omega))
        refine ⟨max K J, fun k hk n hn => ?_⟩
        by_cases e : n < M
        · exact hK k (by omega) n e
        · obtain rfl : n = M := by omega
          exact hJ k (by omega)
    exact this (tN m) (Nat.le_refl _)
  obtain ⟨K3, hK3⟩ : ∃ K, ∀ k, K ≤ k → ∀ n, n < impl_table.M → impl_PutVar.f k (n : Int) = some (putVar n) := by
    have : ∀ M, M ≤ impl_table.M → ∃ K, ∀ k, K ≤ k → ∀ n, n < M → impl_PutVar.f k (n : Int) = some (putVar n) := by
      intro M
      induction M with
      | zero => intro _; exact ⟨0, fun _ _ n hn => absurd hn (Nat.not_lt_zero n)⟩
      | succ M ih =>
        intro hM2
        obtain ⟨K, hK⟩ := ih (by omega)
        obtain ⟨J, hJ⟩ := impl_PutVar_ev M (by omega)
        refine ⟨max K J, fun k hk n hn => ?_⟩
        by_cases e : n < M
        · exact hK k (by omega) n e
        · obtain rfl : n = M := by omega
          exact hJ k (by omega)
    exact this impl_table.M (Nat.le_refl _)
  have tail : Ev (fun k => impl_table.tail k m p (outO m (tN m)) (outI m (tN m))) (tab m p) := by
    have hO := outO_length hm (tN m)
    have hI := outI_length hm (by omega) (tN m) (Nat.le_refl _)
    have hF := fBits_length m p
    have hW := waysOf_range p
    have hkl := kys_len m
    unfold impl_table.tail
    refine Ev.bind (impl_keysOf_ev m (by omega)) ?_
    refine Ev.bind (impl_FilterOf_ev (kys m) (fun s hs => by obtain ⟨e, he, rfl⟩ := kys_mem m s hs; have := (hm e he).1; omega) (by omega) p) ?_
    have e0 : filterOf (kys m) p = ((waysOf p : Int), fBits m p, true) := by
      unfold filterOf fBits
      rw [if_pos ⟨by omega, hp.1, hp.2⟩]
    rw [e0]
    simp only
    refine Ev.bind (Ev_some (impl_FilterBytes_eq _ _ (by omega))) ?_
    have e1 : filterBytes (waysOf p : Int) (fBits m p) = ((waysOf p : Int) % 256 :: fBits m p, true) := by
      unfold filterBytes goodFilter
      rw [decide_eq_true ⟨⟨by omega, by omega⟩, hF.1, hF.2⟩]
      rfl
    rw [e1]
    unfold tab tBody
    simp only
    generalize outO m (tN m) = o at hO ⊢
    generalize outI m (tN m) = ix at hI ⊢
    generalize fBits m p = b at hF ⊢
    generalize waysOf p = W at hW ⊢
    refine Ev.bind (impl_fixed_ev o.length (by omega)) ?_
    rw [w64 (by simp only [List.length_cons]; omega) (by simp only [List.length_cons]; omega), show (o.length : Int) + (((W : Int) % 256 :: b).length : Int) = ((o.length + b.length + 1 : Nat) : Int) by simp only [List.length_cons]; omega]
    refine Ev.bind (impl_fixed_ev (o.length + b.length + 1) (by omega)) ?_
    refine Ev.bind (impl_fixed_ev m.length (by omega)) ?_
    have f1 := fixedB_length 4 o.length
    have f2 := fixedB_length 4 (o.length + b.length + 1)
    have f3 := fixedB_length 4 m.length
    simp only [if_pos (show (fixedB o.length 4).length ≤ 100 ∧ (fixedB (o.length + b.length + 1) 4).length ≤ 100 ∧ (fixedB m.length 4).length ≤ 100 ∧ o.length + ((W : Int) % 256 :: b).length + ix.length ≤ 900000 by simp only [List.length_cons]; omega)]
    have lb : (((o ++ ((W : Int) % 256 :: b)) ++ ix) ++ ((fixedB o.length 4 ++ fixedB (o.length + b.length + 1) 4) ++ fixedB m.length 4)).length ≤ 100000 := by
      rw [List.length_append, List.length_append, List.length_append, List.length_append, List.length_append, List.length_cons]
      omega
    generalize ((o ++ ((W : Int) % 256 :: b)) ++ ix) ++ ((fixedB o.length 4 ++ fixedB (o.length + b.length + 1) 4) ++ fixedB m.length 4) = q at lb ⊢
    refine Ev.bind (impl_Crc32c_ev q (by omega)) ?_
    have hc := crcOf_range q
    rw [w64 (by omega) (by omega), show crcOf q = (((crcOf q).toNat : Nat) : Int) by omega]
    refine Ev.bind (impl_fixed_ev (crcOf q).toNat (by omega)) ?_
    have f4 := fixedB_length 4 (crcOf q).toNat
    simp only [Int.toNat_natCast]
    simp only [if_pos (show (fixedB (crcOf q).toNat 4).length ≤ 100 by omega)]
    exact Ev.now _
  obtain ⟨K4, hK4⟩ := tail
  refine ⟨max (max K1 K2) (max K3 K4), fun k hk => ?_⟩
  have a1 := hK1 k (by omega)
  have a2 := hK2 k (by omega)
  have a3 := hK3 k (by omega)
  have a4 := hK4 k (by omega)
  have hg : impl_table.good k m = true := by
    refine impl_table.good_shut ⟨by omega, by omega⟩ ?_ ?_
    · intro j hj
      have hj : j < tN m := hj
      unfold impl_table.goodB
      rw [show impl_table.ch m j = chk m j from rfl, show impl_table.ky m j = lastK m j from rfl, a1 j hj, a2 j hj]
      have hb := cb_length hm j
      have hs := szd_length (lastK_size hm hj)
      simp only [Option.any_some, Bool.and_eq_true, decide_eq_true_eq]
      omega
    · intro n hn
      unfold impl_table.goodP
      rw [a3 n hn]
      have := putVar_length_64 (n := n) (by omega)
      simp only [Option.any_some, decide_eq_true_eq]
      omega
  have hr := impl_table_run m hm k hl a1 a2 a3 (tN m) (Nat.le_refl _)
  show impl_table.f k m p = _
  unfold impl_table.f
  rw [if_pos hg, show impl_table.N m = tN m from rfl, hr]
  exact a4
theorem okFrom_all (m : List S51) : ∀ (d i : Nat), m.length - i = d → i ≤ m.length → okFrom m d i = true → ∀ j, i ≤ j → j < m.length → eGood (rd_T51 m (j : Int)) = true := by
  intro d
  induction d with
  | zero => intro i hd hi _ j h1 h2; omega
  | succ d ih =>
    intro i hd hi h j h1 h2
    simp only [okFrom, Bool.and_eq_true] at h
    by_cases e : j = i
    · subst e
      unfold stepOk at h
      simp only [Bool.and_eq_true] at h
      exact h.1.1
    · exact ih (i + 1) (by omega) (by omega) h.2 j (by omega) h2
theorem good_all {m : List S51} (h : goodEntries m = true) : ∀ e ∈ m, eOk e := by
  unfold goodEntries at h
  simp only [Bool.and_eq_true] at h
  intro e he
  obtain ⟨j, hj, rfl⟩ := List.getElem_of_mem he
  have := okFrom_all m m.length 0 (by omega) (by omega) h.1 j (by omega) hj
  rw [rd51_lt hj] at this
  exact eOk_of_good this
theorem pw_toList_loop (s : ByteArray) : ∀ (d i : Nat) (r : List UInt8), s.size - i = d → i ≤ s.size → ByteArray.toList.loop s i r = r.reverse ++ s.data.toList.drop i := by
  intro d
  induction d with
  | zero =>
    intro i r hd hi
    rw [ByteArray.toList.loop, if_neg (by omega), List.drop_eq_nil_of_le (by simp; show s.data.size ≤ i; have : s.size = s.data.size := rfl; omega)]
    simp
  | succ d ih =>
    intro i r hd hi
    have hs : s.size = s.data.size := rfl
    rw [ByteArray.toList.loop, if_pos (by omega), ih (i + 1) _ (by omega) (by omega)]
    have : s.data.toList.drop i = s.get! i :: s.data.toList.drop (i + 1) := by
      rw [List.drop_eq_getElem_cons (by simp; omega)]
      congr 1
      simp [ByteArray.get!]
      rw [getElem!_pos s.data i (by omega)]
    rw [this]; simp
theorem toList_data (s : ByteArray) : s.toList = s.data.toList := by
  unfold ByteArray.toList
  rw [pw_toList_loop s s.size 0 [] (by omega) (by omega)]
  simp
theorem strOfNums_list (l : List Int) : (strOfNums l).toList = l.map fun n => UInt8.ofNat n.toNat := by
  rw [toList_data]; simp [strOfNums]
theorem bytes_map_inj : ∀ (a b : List Int), Bytes a → Bytes b → (a.map fun n => UInt8.ofNat n.toNat) = (b.map fun n => UInt8.ofNat n.toNat) → a = b := by
  intro a
  induction a with
  | nil => intro b _ _ h; cases b with
    | nil => rfl
    | cons _ _ => simp at h
  | cons x a ih =>
    intro b ha hb h
    cases b with
    | nil => simp at h
    | cons y b =>
      simp only [List.map_cons, List.cons.injEq] at h
      have h1 := ha x (by simp)
      have h2 := hb y (by simp)
      have h3 := congrArg UInt8.toNat h.1
      simp only [UInt8.toNat_ofNat'] at h3
      rw [ih b (fun z hz => ha z (by simp [hz])) (fun z hz => hb z (by simp [hz])) h.2]
      congr 1
      omega
theorem strOfNums_eq (a b : List Int) (ha : Bytes a) (hb : Bytes b) : ((strOfNums a).toList == (strOfNums b).toList) = decide (a = b) := by
  rw [strOfNums_list, strOfNums_list]
  by_cases h : a = b
  · subst h; simp
  · rw [decide_eq_false h, beq_eq_false_iff_ne]
    exact fun e => h (bytes_map_inj a b ha hb e)
def vval : List Int → Nat
  | [] => 0
  | c :: t => (c % 128).toNat + 128 * vval t
theorem vval_snoc (p : List Int) (c : Int) : vval (p ++ [c]) = vval p + 128 ^ p.length * (c % 128).toNat := by
  induction p with
  | nil => simp [vval]
  | cons a p ih => simp only [List.cons_append, vval, ih, List.length_cons, Nat.pow_succ]; rw [Nat.mul_add, Nat.mul_comm (128 ^ p.length) 128, Nat.mul_assoc]; omega
theorem vval_lt (p : List Int) : vval p < 128 ^ p.length := by
  induction p with
  | nil => simp [vval]
  | cons a p ih =>
    simp only [vval, List.length_cons, Nat.pow_succ]
    have : (a % 128).toNat < 128 := by omega
    omega
theorem vval_putVar : ∀ n : Nat, vval (putVar n) = n := by
  intro n
  induction n using Nat.strongRecOn with
  | ind n ih =>
    by_cases h : 127 < n
    · rw [putVar_big h]; simp only [vval]; rw [ih _ (by omega)]; omega
    · rw [putVar_small (by omega)]; simp only [vval]; omega
/-- The bytes but the last have their eighth bit set. -/
def Conts (p : List Int) : Prop := ∀ x ∈ p, 128 ≤ x ∧ x ≤ 255
theorem putVar_vval : ∀ (p : List Int) (c : Int), Conts p → 0 ≤ c → c < 128 → (p = [] ∨ c ≠ 0) → putVar (vval (p ++ [c])) = p ++ [c] := by
  intro p
  induction p with
  | nil => intro c _ h0 h1 _; rw [List.nil_append, putVar_small (by simp [vval]; omega)]; simp [vval]; omega
  | cons a p ih =>
    intro c hp h0 h1 hc
    have hc' : c ≠ 0 := by rcases hc with h | h
                           · cases h
                           · exact h
    have ha := hp a (by simp)
    have hi := ih c (fun x hx => hp x (by simp [hx])) h0 h1 (.inr hc')
    have hpos : 1 ≤ vval (p ++ [c]) := by
      rw [vval_snoc]
      have h3 : 0 < 128 ^ p.length * (c % 128).toNat := Nat.mul_pos (Nat.pow_pos (by decide)) (by omega)
      omega
    have e1 : vval (a :: (p ++ [c])) = (a % 128).toNat + 128 * vval (p ++ [c]) := rfl
    rw [List.cons_append, e1, putVar_big (by omega)]
    rw [show ((a % 128).toNat + 128 * vval (p ++ [c])) / 128 = vval (p ++ [c]) by omega, hi]
    congr 1
    omega
theorem putVar_last : ∀ (n : Nat) (p : List Int) (c : Int), putVar n = p ++ [c] → (p = [] ∨ c ≠ 0) := by
  intro n
  induction n using Nat.strongRecOn with
  | ind n ih =>
    intro p c h
    by_cases hn : 127 < n
    · rw [putVar_big hn] at h
      cases p with
      | nil => exact .inl rfl
      | cons a p =>
        rw [List.cons_append] at h
        injection h with h1 h2
        rcases ih (n / 128) (by omega) p c h2 with rfl | h3
        · refine .inr ?_
          have h4 : vval (putVar (n / 128)) = n / 128 := vval_putVar _
          rw [h2] at h4
          simp [vval] at h4
          omega
        · exact .inr h3
    · rw [putVar_small (by omega)] at h
      cases p with
      | nil => exact .inl rfl
      | cons a p =>
        have := congrArg List.length h
        simp at this
/-- What a number's reading gives: from the bytes that were met, and those to come. -/
def readVar (at_ : Nat) : List Int → List Int → Int × Int × Bool
  | _, [] => (0, 0, false)
  | p, c :: t => if 10 ≤ p.length then (0, 0, false) else if c < 128 then (if (p = [] ∨ c ≠ 0) ∧ (p.length = 9 → c ≤ 1) then ((vval (p ++ [c]) : Int), (at_ : Int) + p.length + 1, true) else (0, 0, false)) else readVar at_ (p ++ [c]) t
theorem readVar_ten (at_ : Nat) (p t : List Int) (h : 10 ≤ p.length) : readVar at_ p t = (0, 0, false) := by
  cases t with
  | nil => rfl
  | cons c t => simp only [readVar, if_pos h]
theorem and127 : ∀ x : Fin 256, Go.bits .and .u8 (x.val : Int) 127 = ((x.val % 128 : Nat) : Int) := by decide +kernel
theorem and127_int {x : Int} (h : 0 ≤ x) (h' : x ≤ 255) : Go.bits .and .u8 x 127 = x % 128 := by
  have := and127 ⟨x.toNat, by omega⟩
  simp only at this
  rw [show ((x.toNat : Nat) : Int) = x by omega] at this
  rw [this]; omega
theorem wraps_u64 (n : Int) (h₀ : 0 ≤ n) (h₁ : n < 2 ^ 64) : IntKind.u64.wrap n = n := by rw [wrap_u64]; omega
theorem or_add_u64 (i : Nat) (hi : i ≤ 64) (x y : Int) (hx : 0 ≤ x) (hx' : x % 2 ^ i = 0) (hx2 : x < 2 ^ 64) (hy : 0 ≤ y) (hy' : y < 2 ^ i) : Go.bits .or .u64 y x = y + x := by
  have h2 : (2 : Int) ^ i ≤ 2 ^ 64 := by
    have := Nat.pow_le_pow_right (n := 2) (by decide) hi
    exact_mod_cast this
  have e := bits_join .u64 64 (by decide) wraps_u64 i x y hx hx' hx2 hy hy' (by omega)
  obtain ⟨a, rfl⟩ := Int.eq_ofNat_of_zero_le hx
  obtain ⟨b, rfl⟩ := Int.eq_ofNat_of_zero_le hy
  have ha : a < 2 ^ 64 := by exact_mod_cast hx2
  have hb : b < 2 ^ 64 := by
    have : (b : Int) < 2 ^ 64 := by omega
    exact_mod_cast this
  rw [(bits_nat .u64 64 (by decide) wraps_u64 b a hb ha).2, Nat.or_comm]
  rw [(bits_nat .u64 64 (by decide) wraps_u64 a b ha hb).2] at e
  rw [e]; omega
theorem two_pow_7 (j : Nat) : (2 : Int) ^ (7 * j) = 128 ^ j := by rw [Int.pow_mul]; rfl
/-- One more byte's seven bits. -/
theorem step_bits (p : List Int) (c : Int) (h0 : 0 ≤ c) (h1 : c ≤ 255) (hl : p.length ≤ 9) :
    Go.bits .or .u64 (vval p : Int) (shl .u64 (IntKind.u64.wrap (Go.bits .and .u8 c 127)) (7 * (p.length : Int))) = ((vval (p ++ [c]) : Nat) : Int) % 18446744073709551616 ∧ (p.length ≤ 8 → vval (p ++ [c]) < 9223372036854775808) := by
  have hv := vval_lt p
  have hp9 : (128 : Nat) ^ p.length ≤ 128 ^ 9 := Nat.pow_le_pow_right (by decide) hl
  have hc : (c % 128).toNat < 128 := by omega
  have hsn := vval_snoc p c
  refine ⟨?_, fun h8 => ?_⟩
  · rw [and127_int h0 h1, wraps_u64 _ (by omega) (by omega)]
    unfold shl
    rw [show (min (7 * (p.length : Int)).toNat IntKind.u64.bits) = 7 * p.length by simp [IntKind.bits]; omega, two_pow_7, wrap_u64]
    have e2 : ((128 : Nat) ^ p.length * (c % 128).toNat : Nat) = ((c % 128) * 128 ^ p.length : Int) := by
      push_cast
      rw [Int.mul_comm]
      congr 1
      omega
    rw [← e2, hsn]
    generalize hQ : 128 ^ p.length * (c % 128).toNat = Q
    have hd : Q % 128 ^ p.length = 0 := by rw [← hQ]; simp
    have hdv : (18446744073709551616 : Nat) % 128 ^ p.length = 0 := by
      have h7 : p.length = 0 ∨ p.length = 1 ∨ p.length = 2 ∨ p.length = 3 ∨ p.length = 4 ∨ p.length = 5 ∨ p.length = 6 ∨ p.length = 7 ∨ p.length = 8 ∨ p.length = 9 := by omega
      rcases h7 with h | h | h | h | h | h | h | h | h | h <;> rw [h]
    have hQd : (Q % 18446744073709551616) % 128 ^ p.length = 0 := by
      have : 128 ^ p.length ∣ Q % 18446744073709551616 := (Nat.dvd_mod_iff (Nat.dvd_of_mod_eq_zero hdv)).2 (Nat.dvd_of_mod_eq_zero hd)
      exact Nat.mod_eq_zero_of_dvd this
    have hv64 : vval p < 9223372036854775808 := Nat.lt_of_lt_of_le hv (by simpa using hp9)
    rw [show ((Q : Int) % 18446744073709551616) = ((Q % 18446744073709551616 : Nat) : Int) by omega]
    rw [or_add_u64 (7 * p.length) (by omega) _ _ (by omega) (by rw [two_pow_7]; exact_mod_cast hQd) (by omega) (by omega) (by rw [two_pow_7]; exact_mod_cast hv)]
    have hlt : vval p + Q % 18446744073709551616 < 18446744073709551616 := by
      -- both are below, and Q % 2^64 is a multiple of 128^len, 2^64 too
      have h1' : Q % 18446744073709551616 < 18446744073709551616 := Nat.mod_lt _ (by decide)
      obtain ⟨a, ha⟩ := Nat.dvd_of_mod_eq_zero hQd
      obtain ⟨b, hb⟩ := Nat.dvd_of_mod_eq_zero hdv
      have hab : a < b := by
        rw [ha, hb] at h1'
        exact Nat.lt_of_mul_lt_mul_left h1'
      have : 128 ^ p.length * a + 128 ^ p.length ≤ 128 ^ p.length * b := by
        rw [← Nat.mul_succ]; exact Nat.mul_le_mul_left _ hab
      omega
    omega
  · have h9 : (p ++ [c]).length ≤ 9 := by simp; omega
    have := vval_lt (p ++ [c])
    have h2 : (128 : Nat) ^ (p ++ [c]).length ≤ 128 ^ 9 := Nat.pow_le_pow_right (by decide) h9
    have : vval (p ++ [c]) < 128 ^ 9 := Nat.lt_of_lt_of_le this h2
    simpa using this
theorem spec_l1Var_l0 (l : List Int) (hb : Bytes l) (hl : l.length ≤ 281474976710656) (at_ : Nat) : ∀ (t p : List Int), l.drop at_ = p ++ t → at_ ≤ l.length → p.length ≤ 10 → Conts p →
    Ev (fun k => spec_l1Var.l0 k l (at_ : Int) (if p.length ≤ 9 then (vval p : Int) else 0) (p.length : Int)) ((readVar at_ p t).1, (readVar at_ p t).2.1) ∨ p.length = 10 := by
  intro t
  induction t with
  | nil =>
    intro p hd ha hp hcp
    by_cases h10 : p.length = 10
    · exact .inr h10
    refine .inl (Ev_succ ?_)
    have hlen := congrArg List.length hd
    simp at hlen
    simp only [spec_l1Var.l0, if_pos (show (p.length : Int) < 10 by omega)]
    rw [w64 (by omega) (by omega), decide_eq_false (by omega)]
    refine Ev_succ ?_
    simp only [spec_l1Var.j1]
    exact Ev.now _
  | cons c t ih =>
    intro p hd ha hp hcp
    by_cases h10 : p.length = 10
    · exact .inr h10
    refine .inl (Ev_succ ?_)
    have hlen := congrArg List.length hd
    simp at hlen
    have hrd : rd l ((at_ : Int) + p.length) = c := by
      have : (l.drop at_)[p.length]? = some c := by rw [hd]; simp
      rw [List.getElem?_drop] at this
      have h3 : at_ + p.length < l.length := by omega
      rw [show ((at_ : Int) + p.length) = ((at_ + p.length : Nat) : Int) by omega, rd_lt h3]
      rw [List.getElem?_eq_getElem h3] at this
      exact Option.some.inj this
    have hcm : c ∈ l := by
      have : c ∈ l.drop at_ := by rw [hd]; simp
      exact List.mem_of_mem_drop this
    have hcb := hb c hcm
    simp only [spec_l1Var.l0, if_pos (show (p.length : Int) < 10 by omega), if_pos (show p.length ≤ 9 by omega)]
    rw [w64 (by omega) (by omega), decide_eq_true (by omega)]
    refine Ev_succ ?_
    simp only [spec_l1Var.j1, if_true]
    rw [w64 (by omega) (by omega)]
    simp only [if_pos (show 0 ≤ (at_ : Int) + p.length by omega), if_pos (show (at_ : Int) + p.length < (l.length : Int) by omega), hrd]
    obtain ⟨sb, s8⟩ := step_bits p c hcb.1 hcb.2 (by omega)
    have go : ∀ b : Bool, b = decide (p.length = 9 ∧ c > 1) → Ev (fun k => spec_l1Var.j2 k l (at_ : Int) (vval p : Int) (p.length : Int) c b) ((readVar at_ p (c :: t)).1, (readVar at_ p (c :: t)).2.1) := by
      rintro b rfl
      refine Ev_succ ?_
      simp only [spec_l1Var.j2]
      by_cases h9 : p.length = 9 ∧ c > 1
      · simp only [h9, and_self, decide_true, if_true]
        refine Ev_cast (Ev.now _) ?_
        simp only [readVar]
        rw [if_neg (by omega)]
        by_cases hc8 : c < 128
        · rw [if_pos hc8, if_neg (by omega)]
        · rw [if_neg hc8, readVar_ten _ _ _ (by simp; omega)]
      · rw [decide_eq_false h9]
        simp only [Bool.false_eq_true, if_false]
        rw [w64 (by omega) (by omega), wraps_u64 _ (by omega) (by omega), sb]
        have hle : vval (p ++ [c]) < 18446744073709551616 := by
          by_cases h8 : p.length ≤ 8
          · have := s8 h8; omega
          · have h99 : p.length = 9 := by omega
            have h01 : c ≤ 1 := by omega
            rw [vval_snoc, h99]
            have := vval_lt p
            rw [h99] at this
            have h5 : (c % 128).toNat ≤ 1 := by omega
            have h6 : 128 ^ 9 * (c % 128).toNat ≤ 128 ^ 9 * 1 := Nat.mul_le_mul_left _ h5
            simp at this h6 ⊢
            omega
        rw [show ((vval (p ++ [c]) : Nat) : Int) % 18446744073709551616 = (vval (p ++ [c]) : Int) by omega]
        simp only [if_pos (show 0 ≤ 7 * (p.length : Int) by omega)]
        by_cases hc8 : c < 128
        · simp only [if_pos hc8]
          rw [w64 (n := (at_ : Int) + p.length) (by omega) (by omega), w64 (n := (at_ : Int) + p.length + 1) (by omega) (by omega)]
          have er : readVar at_ p (c :: t) = if (p = [] ∨ c ≠ 0) ∧ (p.length = 9 → c ≤ 1) then ((vval (p ++ [c]) : Int), (at_ : Int) + p.length + 1, true) else (0, 0, false) := by
            simp only [readVar]; rw [if_neg (by omega), if_pos hc8]
          rw [er]
          by_cases hp0 : p = []
          · subst hp0
            rw [if_pos (show (([] : List Int) = [] ∨ c ≠ 0) ∧ (([] : List Int).length = 9 → c ≤ 1) from ⟨.inl rfl, by simp⟩)]
            simp only [if_neg (show ¬ ((([] : List Int).length : Int) > 0) by simp)]
            exact Ev_cast (Ev.now _) (by simp)
          · have hpl : 0 < p.length := List.length_pos_iff.2 hp0
            simp only [if_pos (show (p.length : Int) > 0 by omega)]
            by_cases hc0 : c = 0
            · simp only [if_pos hc0]
              rw [if_neg (by simp [hp0, hc0])]
              exact Ev.now _
            · simp only [if_neg hc0]
              rw [if_pos ⟨.inr hc0, by omega⟩]
              exact Ev_cast (Ev.now _) rfl
        · simp only [if_neg hc8]
          rw [w64 (by omega) (by omega)]
          have e1 : readVar at_ p (c :: t) = readVar at_ (p ++ [c]) t := by
            simp only [readVar]; rw [if_neg (by omega), if_neg hc8]
          rw [e1]
          rcases ih (p ++ [c]) (by rw [hd]; simp) ha (by simp; omega) (by
            intro x hx
            rcases List.mem_append.1 hx with h | h
            · exact hcp x h
            · obtain rfl : x = c := by simpa using h
              omega) with h | h
          · by_cases h99 : p.length = 9
            · omega
            · rw [if_pos (by simp; omega)] at h
              simpa using h
          · simp at h
            omega
    by_cases h9 : (p.length : Int) = 9
    · simp only [if_pos h9]
      exact go _ (by have : p.length = 9 := by omega
                     simp [this])
    · simp only [if_neg h9]
      exact go _ (by have : ¬ p.length = 9 := by omega
                     simp [this])
theorem spec_l1Var_ev (l : List Int) (hb : Bytes l) (hl : l.length ≤ 281474976710656) (at_ : Nat) (ha : at_ ≤ l.length) : Ev (fun k => spec_l1Var.f k l (at_ : Int)) ((readVar at_ [] (l.drop at_)).1, (readVar at_ [] (l.drop at_)).2.1) := by
  unfold spec_l1Var.f
  rcases spec_l1Var_l0 l hb hl at_ (l.drop at_) [] (by simp) ha (by simp) (fun x hx => by cases hx) with h | h
  · simpa [vval] using h
  · simp at h
theorem impl_ReadVar_l0 (l : List Int) (hb : Bytes l) (hl : l.length ≤ 281474976710656) (at_ : Nat) : ∀ (t p : List Int), l.drop at_ = p ++ t → at_ ≤ l.length → p.length ≤ 10 → Conts p →
    ∀ x : Int, (p.length ≤ 9 → x = (vval p : Int)) → Ev (fun k => impl_ReadVar.l0 k l (at_ : Int) x ((at_ : Int) + p.length)) (readVar at_ p t) := by
  intro t
  induction t with
  | nil =>
    intro p hd ha hp hcp x hx
    refine Ev_succ ?_
    have hlen := congrArg List.length hd
    simp at hlen
    simp only [impl_ReadVar.l0]
    rw [w64 (n := (at_ : Int) + 10) (by omega) (by omega)]
    simp only [if_neg (show ¬ (at_ : Int) + p.length < mn (l.length : Int) ((at_ : Int) + 10) by unfold mn; split <;> omega)]
    exact Ev.now _
  | cons c t ih =>
    intro p hd ha hp hcp x hx
    refine Ev_succ ?_
    have hlen := congrArg List.length hd
    simp at hlen
    simp only [impl_ReadVar.l0]
    by_cases h10 : p.length = 10
    · rw [w64 (n := (at_ : Int) + 10) (by omega) (by omega), readVar_ten _ _ _ (by omega)]
      simp only [if_neg (show ¬ (at_ : Int) + p.length < mn (l.length : Int) ((at_ : Int) + 10) by unfold mn; split <;> omega)]
      exact Ev.now _
    have hx := hx (by omega)
    subst hx
    have hrd : rd l ((at_ : Int) + p.length) = c := by
      have : (l.drop at_)[p.length]? = some c := by rw [hd]; simp
      rw [List.getElem?_drop] at this
      have h3 : at_ + p.length < l.length := by omega
      rw [show ((at_ : Int) + p.length) = ((at_ + p.length : Nat) : Int) by omega, rd_lt h3]
      rw [List.getElem?_eq_getElem h3] at this
      exact Option.some.inj this
    have hcm : c ∈ l := by
      have : c ∈ l.drop at_ := by rw [hd]; simp
      exact List.mem_of_mem_drop this
    have hcb := hb c hcm
    obtain ⟨sb, s8⟩ := step_bits p c hcb.1 hcb.2 (by omega)
    rw [w64 (n := (at_ : Int) + 10) (by omega) (by omega)]
    simp only [if_pos (show (at_ : Int) + p.length < mn (l.length : Int) ((at_ : Int) + 10) by unfold mn; split <;> omega)]
    simp only [hrd]
    rw [w64 (n := (at_ : Int) + p.length - at_) (by omega) (by omega), show (at_ : Int) + p.length - at_ = (p.length : Int) by omega, w64 (n := 7 * (p.length : Int)) (by omega) (by omega), w64 (n := (at_ : Int) + p.length + 1) (by omega) (by omega), sb]
    simp only [if_pos (show 0 ≤ (at_ : Int) + p.length by omega), if_pos (show (at_ : Int) + p.length < (l.length : Int) by omega), if_pos (show 0 ≤ 7 * (p.length : Int) by omega)]
    by_cases hc8 : c < 128
    · simp only [if_pos hc8]
      have er : readVar at_ p (c :: t) = if (p = [] ∨ c ≠ 0) ∧ (p.length = 9 → c ≤ 1) then ((vval (p ++ [c]) : Int), (at_ : Int) + p.length + 1, true) else (0, 0, false) := by
        simp only [readVar]; rw [if_neg (by omega), if_pos hc8]
      rw [er]
      rw [show ((vval (p ++ [c]) : Nat) : Int) % 18446744073709551616 = ((vval (p ++ [c]) % 18446744073709551616 : Nat) : Int) by omega]
      have hm : vval (p ++ [c]) % 18446744073709551616 ≤ 18446744073709551615 := by omega
      refine Ev.bind (impl_PutVar_ev _ hm) ?_
      simp only [if_pos (show 0 ≤ (at_ : Int) by omega), if_pos (show (at_ : Int) ≤ (at_ : Int) + p.length + 1 by omega), if_pos (show (at_ : Int) + p.length + 1 ≤ (l.length : Int) by omega)]
      have hcut : (l.take ((at_ : Int) + p.length + 1).toNat).drop (at_ : Int).toNat = p ++ [c] := by
        rw [show ((at_ : Int) + p.length + 1).toNat = at_ + (p.length + 1) by omega, show ((at_ : Int)).toNat = at_ by omega, ← List.take_drop, hd]
        rw [show p ++ c :: t = (p ++ [c]) ++ t by simp, List.take_append_of_le_length (by simp)]
        rw [List.take_of_length_le (by simp)]
      rw [hcut]
      have hpb : Bytes (p ++ [c]) := by
        intro y hy
        have : y ∈ l.drop at_ := by rw [hd, show p ++ c :: t = (p ++ [c]) ++ t by simp]; exact List.mem_append_left _ hy
        exact hb y (List.mem_of_mem_drop this)
      refine Ev.bind (Ev_some (by unfold bytes_Equal.f; rw [strOfNums_eq _ _ (putVar_bytes _) hpb])) ?_
      by_cases hg : (p = [] ∨ c ≠ 0) ∧ (p.length = 9 → c ≤ 1)
      · rw [if_pos hg]
        have hle : vval (p ++ [c]) < 18446744073709551616 := by
          by_cases h8 : p.length ≤ 8
          · have := s8 h8; omega
          · have h99 : p.length = 9 := by omega
            have h01 : c ≤ 1 := hg.2 h99
            rw [vval_snoc, h99]
            have := vval_lt p
            rw [h99] at this
            have h5 : (c % 128).toNat ≤ 1 := by omega
            have h6 : 128 ^ 9 * (c % 128).toNat ≤ 128 ^ 9 * 1 := Nat.mul_le_mul_left _ h5
            simp at this h6 ⊢
            omega
        rw [Nat.mod_eq_of_lt hle]
        rw [decide_eq_true (putVar_vval p c hcp hcb.1 hc8 hg.1)]
        simp only [if_true]
        exact Ev.now _
      · rw [if_neg hg]
        have hne : ¬ putVar (vval (p ++ [c]) % 18446744073709551616) = p ++ [c] := by
          intro e
          have h1 := putVar_last _ _ _ e
          have h2 := vval_putVar (vval (p ++ [c]) % 18446744073709551616)
          rw [e] at h2
          apply hg
          refine ⟨h1, fun h9 => ?_⟩
          have h3 : vval (p ++ [c]) < 18446744073709551616 := by omega
          rw [vval_snoc, h9] at h3
          by_cases hc2 : c ≤ 1
          · exact hc2
          · exfalso
            have h5 : 2 ≤ (c % 128).toNat := by omega
            have h6 : 128 ^ 9 * 2 ≤ 128 ^ 9 * (c % 128).toNat := Nat.mul_le_mul_left _ h5
            simp at h3 h6
            omega
        rw [decide_eq_false hne]
        simp only [Bool.false_eq_true, if_false]
        exact Ev.now _
    · simp only [if_neg hc8]
      have e1 : readVar at_ p (c :: t) = readVar at_ (p ++ [c]) t := by
        simp only [readVar]; rw [if_neg (by omega), if_neg hc8]
      rw [e1, show (at_ : Int) + p.length + 1 = (at_ : Int) + ((p ++ [c]).length : Int) by simp; omega]
      refine ih (p ++ [c]) (by rw [hd]; simp) ha (by simp; omega) ?_ _ (fun h => ?_)
      · intro x hx
        rcases List.mem_append.1 hx with h | h
        · exact hcp x h
        · obtain rfl : x = c := by simpa using h
          omega
      · have : p.length ≤ 8 := by simp at h; omega
        have := s8 this
        omega
theorem impl_ReadVar_ev (l : List Int) (hb : Bytes l) (hl : l.length ≤ 281474976710656) (a : Int) : Ev (fun k => impl_ReadVar.f k l a) (if 0 ≤ a ∧ a ≤ l.length then readVar a.toNat [] (l.drop a.toNat) else (0, 0, false)) := by
  unfold impl_ReadVar.f
  refine Ev.bind (Ev_some (within_eq _ _ _)) ?_
  by_cases h : 0 ≤ a ∧ a ≤ l.length
  · rw [decide_eq_true h, if_pos h]
    simp only [if_true]
    have := impl_ReadVar_l0 l hb hl a.toNat (l.drop a.toNat) [] (by simp) (by omega) (by simp) (fun x hx => by cases hx) 0 (fun _ => by simp [vval])
    simp only [List.length_nil, Int.natCast_zero, Int.add_zero] at this
    rwa [show ((a.toNat : Nat) : Int) = a by omega] at this
  · rw [decide_eq_false h, if_neg h]
    simp only [Bool.false_eq_true, if_false]
    exact Ev.now _
theorem readVar_split (at_ : Nat) : ∀ (t p : List Int), Conts p → Bytes t → (readVar at_ p t).2.2 = true →
    ∃ (n : Nat) (r : List Int), p ++ t = putVar n ++ r ∧ n ≤ 18446744073709551615 ∧ (readVar at_ p t).1 = (n : Int) ∧ (readVar at_ p t).2.1 = ((at_ + (putVar n).length : Nat) : Int) := by
  intro t
  induction t with
  | nil => intro p _ _ h; simp [readVar] at h
  | cons c t ih =>
    intro p hp hb h
    have hc := hb c (List.mem_cons_self ..)
    simp only [readVar] at h ⊢
    by_cases h1 : 10 ≤ p.length
    · simp [if_pos h1] at h
    · simp only [if_neg h1] at h ⊢
      by_cases h2 : c < 128
      · simp only [if_pos h2] at h ⊢
        by_cases h3 : (p = [] ∨ c ≠ 0) ∧ (p.length = 9 → c ≤ 1)
        · simp only [if_pos h3]
          have hv := putVar_vval p c hp hc.1 h2 h3.1
          refine ⟨vval (p ++ [c]), t, by rw [hv]; simp, ?_, rfl, by rw [hv]; simp; omega⟩
          by_cases h9 : p.length = 9
          · have hc1 := h3.2 h9
            have := vval_lt p
            rw [vval_snoc, h9]
            rw [h9] at this
            have hcc : (c % 128).toNat ≤ 1 := by omega
            have hm : 128 ^ 9 * (c % 128).toNat ≤ 128 ^ 9 * 1 := Nat.mul_le_mul_left _ hcc
            omega
          · have h8 := vval_lt (p ++ [c])
            have : (128 : Nat) ^ (p ++ [c]).length ≤ 128 ^ 9 := Nat.pow_le_pow_right (by decide) (by simp; omega)
            omega
        · simp [if_neg h3] at h
      · simp only [if_neg h2] at h ⊢
        obtain ⟨n, r, e, rest⟩ := ih (p ++ [c]) (fun x hx => by
          rcases List.mem_append.1 hx with hx | hx
          · exact hp x hx
          · rw [List.mem_singleton.1 hx]; omega) (fun x hx => hb x (List.mem_cons_of_mem _ hx)) h
        exact ⟨n, r, by rw [← e]; simp, rest⟩
theorem step_at {l : List Int} (hb : Bytes l) {a : Nat} (ha : a ≤ l.length) (h : (readVar a [] (l.drop a)).2.2 = true) :
    ∃ n : Nat, n ≤ 18446744073709551615 ∧ (readVar a [] (l.drop a)).1 = (n : Int) ∧ (readVar a [] (l.drop a)).2.1 = ((a + (putVar n).length : Nat) : Int) ∧ l.drop a = putVar n ++ l.drop (a + (putVar n).length) ∧ a + (putVar n).length ≤ l.length := by
  obtain ⟨n, r, e, hn, e1, e2⟩ := readVar_split a (l.drop a) [] (fun x hx => by cases hx) (fun x hx => hb x (List.mem_of_mem_drop hx)) h
  rw [List.nil_append] at e
  refine ⟨n, hn, e1, e2, ?_, ?_⟩
  · have : l.drop (a + (putVar n).length) = r := by rw [← List.drop_drop, e, List.drop_left]
    rw [this, e]
  · have := congrArg List.length e
    rw [List.length_drop, List.length_append] at this
    omega
theorem readVar_nonneg (at_ : Nat) : ∀ (t p : List Int), 0 ≤ (readVar at_ p t).2.1 := by
  intro t
  induction t with
  | nil => intro p; simp [readVar]
  | cons c t ih =>
    intro p
    simp only [readVar]
    by_cases h1 : 10 ≤ p.length
    · simp [if_pos h1]
    · simp only [if_neg h1]
      by_cases h2 : c < 128
      · simp only [if_pos h2]
        split
        · show (0 : Int) ≤ (at_ : Int) + p.length + 1
          omega
        · simp
      · simp only [if_neg h2]; exact ih _
theorem readVar_ok (at_ : Nat) : ∀ (t p : List Int), readVar at_ p t = ((readVar at_ p t).1, (readVar at_ p t).2.1, decide ((readVar at_ p t).2.1 > 0)) := by
  intro t
  induction t with
  | nil => intro p; rfl
  | cons c t ih =>
    intro p
    simp only [readVar]
    by_cases h1 : 10 ≤ p.length
    · simp only [if_pos h1]; rfl
    · simp only [if_neg h1]
      by_cases h2 : c < 128
      · simp only [if_pos h2]
        by_cases h3 : (p = [] ∨ c ≠ 0) ∧ (p.length = 9 → c ≤ 1)
        · simp only [if_pos h3]
          rw [decide_eq_true (show (at_ : Int) + p.length + 1 > 0 by omega)]
        · simp only [if_neg h3]; rfl
      · simp only [if_neg h2]; exact ih _
theorem wraps_u64' (n : Int) (h₀ : 0 ≤ n) (h₁ : n < 2 ^ 64) : IntKind.u64.wrap n = n := by rw [wrap_u64]; omega
def beVal (l : List Int) : Nat := l.foldl (fun n x => n * 256 + x.toNat) 0
theorem beVal_snoc (p : List Int) (c : Int) : beVal (p ++ [c]) = beVal p * 256 + c.toNat := by simp [beVal]
theorem beVal_lt : ∀ (p : List Int), Bytes p → beVal p < 256 ^ p.length := by
  intro p
  have key : ∀ (q : List Int) (n m : Nat), Bytes q → n < 256 ^ m → q.foldl (fun n x => n * 256 + x.toNat) n < 256 ^ (m + q.length) := by
    intro q
    induction q with
    | nil => intro n m _ h; simpa using h
    | cons a q ih =>
      intro n m hb h
      have ha := hb a (by simp)
      have := ih (n * 256 + a.toNat) (m + 1) (fun x hx => hb x (by simp [hx])) (by rw [Nat.pow_succ]; omega)
      simp only [List.foldl_cons, List.length_cons]
      rwa [show m + (q.length + 1) = m + 1 + q.length by omega]
  intro hb
  have := key p 0 0 hb (by simp)
  simpa [beVal] using this
theorem pow256_le {i j : Nat} (h : i ≤ j) : (256 : Nat) ^ i ≤ 256 ^ j := Nat.pow_le_pow_right (by decide) h
/-- What ReadFixed tells. -/
def readFixed (l : List Int) (a m : Int) : Int × Bool := if 1 ≤ m ∧ m ≤ 8 ∧ 0 ≤ a ∧ a + m ≤ l.length ∧ beVal ((l.drop a.toNat).take m.toNat) < 9223372036854775808 then ((beVal ((l.drop a.toNat).take m.toNat) : Int), true) else (0, false)
theorem or_i64 (v x : Nat) (hv : v < 72057594037927936) (hx : x < 256) : Go.bits .or .i64 (wrap64 ((v : Int) * 256)) (wrap64 (x : Int)) = wrap64 ((v * 256 + x : Nat) : Int) := by
  have e1 : BitVec.ofInt 64 (wrap64 ((v : Int) * 256)) = BitVec.ofNat 64 (v * 256) := by
    apply BitVec.eq_of_toNat_eq
    rw [BitVec.toNat_ofInt, BitVec.toNat_ofNat]
    unfold wrap64; omega
  have e2 : BitVec.ofInt 64 (wrap64 (x : Int)) = BitVec.ofNat 64 x := by
    apply BitVec.eq_of_toNat_eq
    rw [BitVec.toNat_ofInt, BitVec.toNat_ofNat]
    unfold wrap64; omega
  have e3 : (BitVec.ofNat 64 (v * 256) ||| BitVec.ofNat 64 x).toNat = v * 256 + x := by
    rw [BitVec.toNat_or, BitVec.toNat_ofNat, BitVec.toNat_ofNat, Nat.mod_eq_of_lt (by omega), Nat.mod_eq_of_lt (by omega)]
    have := Nat.two_pow_add_eq_or_of_lt (i := 8) (b := x) (by omega) v
    rw [show v * 256 = 2 ^ 8 * v by omega, ← this]
  unfold Go.bits
  show IntKind.i64.wrap (((BitVec.ofInt 64 (wrap64 ((v : Int) * 256)) ||| BitVec.ofInt 64 (wrap64 (x : Int))).toNat : Nat) : Int) = _
  rw [e1, e2, e3, IntKind.wrap_i64, wrap64]
theorem or_u64 (v x : Nat) (hv : v < 72057594037927936) (hx : x < 256) : Go.bits .or .u64 (IntKind.u64.wrap ((v : Int) * 256)) (IntKind.u64.wrap (x : Int)) = ((v * 256 + x : Nat) : Int) := by
  rw [wraps_u64' _ (by omega) (by omega), wraps_u64' _ (by omega) (by omega)]
  rw [bits_join .u64 64 (by decide) wraps_u64' 8 _ _ (by omega) (by omega) (by omega) (by omega) (by omega) (by omega)]
  omega
theorem spec_l1Number_l0 : ∀ (t p : List Int), Bytes (p ++ t) → (p ++ t).length ≤ 8 → Ev (fun k => spec_l1Number.l0 k (wrap64 (beVal p)) (p ++ t) ((p ++ t).length : Int) (p.length : Int)) (wrap64 (beVal (p ++ t))) := by
  intro t
  induction t with
  | nil =>
    intro p hb hl
    refine Ev_succ ?_
    simp only [spec_l1Number.l0, List.append_nil, Int.lt_irrefl, if_false]
    exact Ev.now _
  | cons c t ih =>
    intro p hb hl
    refine Ev_succ ?_
    have hpb : Bytes p := fun x hx => hb x (List.mem_append_left _ hx)
    have hcb := hb c (by simp)
    have hv := beVal_lt p hpb
    have hl' : p.length ≤ 7 := by simp at hl; omega
    have hv' : beVal p < 256 ^ 7 := Nat.lt_of_lt_of_le hv (pow256_le hl')
    have hll : (p ++ c :: t).length = p.length + t.length + 1 := by simp; omega
    have hrd : rd (p ++ c :: t) (p.length : Int) = c := by
      rw [rd_lt (by omega)]; simp
    simp only [spec_l1Number.l0]
    simp only [if_pos (show (p.length : Int) < ((p ++ c :: t).length : Int) by omega), if_pos (show 0 ≤ (p.length : Int) by omega), hrd]
    rw [w64 (n := (p.length : Int) + 1) (by omega) (by omega), w64 (n := ((beVal p : Nat) : Int)) (by omega) (by omega)]
    obtain ⟨C, rfl⟩ := Int.eq_ofNat_of_zero_le hcb.1
    rw [or_i64 _ _ (by omega) (by omega)]
    have e : p ++ (C : Int) :: t = (p ++ [(C : Int)]) ++ t := by simp
    have e2 : beVal (p ++ [(C : Int)]) = beVal p * 256 + C := by rw [beVal_snoc]; simp
    rw [e, show (p.length : Int) + 1 = ((p ++ [(C : Int)]).length : Int) by simp, ← e2]
    exact ih _ (by rw [← e]; exact hb) (by rw [← e]; exact hl)
theorem spec_l1Number_ev (l : List Int) (hb : Bytes l) (hl : l.length ≤ 8) : Ev (fun k => spec_l1Number.f k l) (wrap64 (beVal l)) := by
  unfold spec_l1Number.f
  have := spec_l1Number_l0 l [] (by simpa using hb) (by simpa using hl)
  simpa [beVal, w64 (n := 0) (by omega) (by omega)] using this
theorem impl_ReadFixed_l0 : ∀ (t p : List Int), Bytes (p ++ t) → (p ++ t).length ≤ 8 → Ev (fun k => impl_ReadFixed.l0 k (beVal p) (p ++ t) ((p ++ t).length : Int) (p.length : Int)) (if beVal (p ++ t) < 9223372036854775808 then ((beVal (p ++ t) : Int), true) else (0, false)) := by
  intro t
  induction t with
  | nil =>
    intro p hb hl
    refine Ev_succ ?_
    simp only [impl_ReadFixed.l0, List.append_nil, Int.lt_irrefl, if_false]
    by_cases h : beVal p < 9223372036854775808
    · rw [if_pos h, w64 (by omega) (by omega)]
      simp only [if_pos (show (beVal p : Int) / 9223372036854775808 = 0 by omega)]
      exact Ev.now _
    · rw [if_neg h]
      simp only [if_neg (show ¬ (beVal p : Int) / 9223372036854775808 = 0 by omega)]
      exact Ev.now _
  | cons c t ih =>
    intro p hb hl
    refine Ev_succ ?_
    have hpb : Bytes p := fun x hx => hb x (List.mem_append_left _ hx)
    have hcb := hb c (by simp)
    have hv := beVal_lt p hpb
    have hl' : p.length ≤ 7 := by simp at hl; omega
    have hv' : beVal p < 256 ^ 7 := Nat.lt_of_lt_of_le hv (pow256_le hl')
    have hll : (p ++ c :: t).length = p.length + t.length + 1 := by simp; omega
    have hrd : rd (p ++ c :: t) (p.length : Int) = c := by
      rw [rd_lt (by omega)]; simp
    simp only [impl_ReadFixed.l0]
    simp only [if_pos (show (p.length : Int) < ((p ++ c :: t).length : Int) by omega), if_pos (show 0 ≤ (p.length : Int) by omega), hrd]
    rw [w64 (n := (p.length : Int) + 1) (by omega) (by omega)]
    obtain ⟨C, rfl⟩ := Int.eq_ofNat_of_zero_le hcb.1
    rw [or_u64 _ _ (by omega) (by omega)]
    have e : p ++ (C : Int) :: t = (p ++ [(C : Int)]) ++ t := by simp
    have e2 : beVal (p ++ [(C : Int)]) = beVal p * 256 + C := by rw [beVal_snoc]; simp
    rw [e, show (p.length : Int) + 1 = ((p ++ [(C : Int)]).length : Int) by simp, ← e2]
    exact ih _ (by rw [← e]; exact hb) (by rw [← e]; exact hl)
theorem impl_ReadFixed_ev (l : List Int) (hb : Bytes l) (hl : l.length ≤ 281474976710656) (a m : Int) (ha : -9223372036854775808 ≤ a ∧ a ≤ 9223372036854775807) (hm : -9223372036854775808 ≤ m ∧ m ≤ 9223372036854775807) :
    Ev (fun k => impl_ReadFixed.f k l a m) (readFixed l a m) := by
  have bad : Ev (fun k => impl_ReadFixed.j0 k l a m true) (0, false) := by
    refine Ev_succ ?_
    simp only [impl_ReadFixed.j0, if_true]
    exact Ev.now _
  unfold impl_ReadFixed.f readFixed
  refine Ev.bind (Ev_some (within_eq _ _ _)) ?_
  by_cases h : 1 ≤ m ∧ m ≤ 8
  · rw [decide_eq_true h]
    simp only [if_true]
    refine Ev.bind (Ev_some (within_eq _ _ _)) ?_
    rw [w64 (by omega) (by omega)]
    by_cases h2 : 0 ≤ a ∧ a ≤ (l.length : Int) - m
    · rw [decide_eq_true h2, Bool.not_true]
      refine Ev_succ ?_
      simp only [impl_ReadFixed.j0, Bool.false_eq_true, if_false]
      rw [w64 (by omega) (by omega)]
      simp only [if_pos (show 0 ≤ a by omega), if_pos (show a ≤ a + m by omega), if_pos (show a + m ≤ (l.length : Int) by omega)]
      have hcut : (l.take (a + m).toNat).drop a.toNat = (l.drop a.toNat).take m.toNat := by
        rw [show (a + m).toNat = a.toNat + m.toNat by omega, ← List.take_drop]
      rw [hcut]
      have hcb : Bytes ((l.drop a.toNat).take m.toNat) := (hb.drop _).take _
      have hcl : ((l.drop a.toNat).take m.toNat).length = m.toNat := by simp; omega
      have := impl_ReadFixed_l0 ((l.drop a.toNat).take m.toNat) [] (by simpa using hcb) (by simp only [List.nil_append]; omega)
      simp only [List.nil_append, List.length_nil, Int.natCast_zero] at this
      refine Ev_cast this ?_
      by_cases h3 : beVal ((l.drop a.toNat).take m.toNat) < 9223372036854775808
      · rw [if_pos h3, if_pos ⟨h.1, h.2, by omega, by omega, h3⟩]
      · rw [if_neg h3, if_neg (fun hh => h3 hh.2.2.2.2)]
    · rw [decide_eq_false h2, Bool.not_false, if_neg (by omega)]
      exact bad
  · rw [decide_eq_false h]
    simp only [Bool.false_eq_true, if_false]
    rw [if_neg (by omega)]
    exact bad
/-- a number out of its code -/
def zag (x : Int) : Int := if x % 2 = 1 then -(x / 2) - 1 else x / 2
theorem zig_zag (n : Nat) : zig (zag n) = n := by
  unfold zig zag
  by_cases h : (n : Int) % 2 = 1
  · simp only [if_pos h]
    rw [if_pos (by omega)]; omega
  · simp only [if_neg h]
    rw [if_neg (by omega)]; omega
theorem impl_zig (n : Nat) (hn : n ≤ 18446744073709551615) : impl_ReadAgg.zig n = zag n := by
  unfold impl_ReadAgg.zig zag
  have hb : Go.bits .and .u64 (n : Int) 1 = (n : Int) % 2 := bits_mask .u64 64 (by decide) wraps_u64 1 (by decide) (n : Int) (by omega) (by omega)
  rw [show (BinOp.and) = Go.BinOp.and from rfl] at *
  have e : Go.bits BinOp.and IntKind.u64 (n : Int) 1 = (n : Int) % 2 := hb
  rw [e, w64 (n := (n : Int) / 2) (by omega) (by omega)]
  by_cases h : (n : Int) % 2 = 1
  · rw [if_pos (by simp [h]), if_pos h, w64 (n := -((n : Int) / 2)) (by omega) (by omega), w64 (by omega) (by omega)]
  · rw [if_neg (by simpa using h), if_neg h]
theorem spec_zig (n : Nat) (hn : n ≤ 18446744073709551615) : spec_ReadAgg.zig n = zag n := by
  unfold spec_ReadAgg.zig zag
  have e1 : (n : Int).tmod 2 = (n : Int) % 2 := by rw [Int.tmod_eq_emod_of_nonneg (by omega)]
  have e2 : (n : Int).tdiv 2 = (n : Int) / 2 := by rw [Int.tdiv_eq_ediv_of_nonneg (by omega)]
  rw [e1, e2, wraps_u64 _ (by omega) (by omega), w64 (n := (n : Int) / 2) (by omega) (by omega)]
  by_cases h : (n : Int) % 2 = 1
  · rw [if_pos (by simp [h]), if_pos h, w64 (n := -((n : Int) / 2)) (by omega) (by omega), w64 (by omega) (by omega)]
  · rw [if_neg (by simpa using h), if_neg h]
/-- so many numbers, read one behind the other -/
def dnums (l : List Int) : Nat → List Int → Nat → Option (List Int × Nat)
  | 0, acc, a => some (acc, a)
  | n + 1, acc, a => if (readVar a [] (l.drop a)).2.2 = true then dnums l n (acc ++ [zag (readVar a [] (l.drop a)).1]) (readVar a [] (l.drop a)).2.1.toNat else none
theorem dnums_split {l : List Int} (hb : Bytes l) : ∀ (n : Nat) (acc : List Int) (a : Nat) (L : List Int) (b : Nat), a ≤ l.length → dnums l n acc a = some (L, b) →
    ∃ xs : List Nat, L = acc ++ xs.map (fun x : Nat => zag (x : Int)) ∧ xs.length = n ∧ (∀ x ∈ xs, x ≤ 18446744073709551615) ∧ l.drop a = xs.flatMap putVar ++ l.drop b ∧ b ≤ l.length := by
  intro n
  induction n with
  | zero =>
    intro acc a L b ha h
    simp only [dnums, Option.some.injEq, Prod.mk.injEq] at h
    obtain ⟨rfl, rfl⟩ := h
    exact ⟨[], by simp, rfl, fun x hx => (by cases hx), by simp, ha⟩
  | succ n ih =>
    intro acc a L b ha h
    simp only [dnums] at h
    by_cases hok : (readVar a [] (l.drop a)).2.2 = true
    · rw [if_pos hok] at h
      obtain ⟨x, hx, e1, e2, e3, e4⟩ := step_at hb ha hok
      rw [e1, e2, Int.toNat_natCast] at h
      obtain ⟨xs, h1, h2, h3, h4, h5⟩ := ih _ _ _ _ e4 h
      refine ⟨x :: xs, by rw [h1]; simp, by simp [h2], fun y hy => ?_, by rw [e3, h4]; simp, h5⟩
      rcases List.mem_cons.1 hy with hy | hy
      · rw [hy]; exact hx
      · exact h3 y hy
    · rw [if_neg hok] at h; cases h
theorem putAll_zag : ∀ xs : List Nat, putAll (xs.map (fun x : Nat => zag (x : Int))) = xs.flatMap putVar
  | [] => rfl
  | x :: xs => by simp only [List.map_cons, putAll, List.flatMap_cons, zig_zag, putAll_zag xs]
theorem impl_l_ev (l : List Int) (hb : Bytes l) (hl : l.length ≤ 281474976710656) : ∀ (n : Nat) (acc : List Int) (a : Nat), a ≤ l.length → Ev (fun k => impl_ReadAgg.l k l n acc (a : Int)) ((dnums l n acc a).map Prod.fst) := by
  intro n
  induction n with
  | zero => intro acc a _; simp only [impl_ReadAgg.l, dnums]; exact Ev.now _
  | succ n ih =>
    intro acc a ha
    simp only [impl_ReadAgg.l, dnums]
    have h0 := impl_ReadVar_ev l hb hl (a : Int)
    rw [if_pos (by omega), Int.toNat_natCast] at h0
    refine Ev.bind h0 ?_
    by_cases hok : (readVar a [] (l.drop a)).2.2 = true
    · obtain ⟨x, hx, e1, e2, e3, e4⟩ := step_at hb ha hok
      simp only [if_pos hok, e1, e2, Int.toNat_natCast, impl_zig x hx]
      exact ih _ _ e4
    · simp only [if_neg hok]; exact Ev.now _
/-- as the specification reads them: none is greater than 2 to the 62 -/
def snums (l : List Int) : Nat → List Int → Nat → Option (List Int × Nat)
  | 0, acc, a => some (acc, a)
  | n + 1, acc, a => if (readVar a [] (l.drop a)).2.2 = true ∧ (readVar a [] (l.drop a)).1 ≤ 4611686018427387904 then snums l n (acc ++ [zag (readVar a [] (l.drop a)).1]) (readVar a [] (l.drop a)).2.1.toNat else none
theorem spec_l_ev (l : List Int) (hb : Bytes l) (hl : l.length ≤ 281474976710656) : ∀ (n : Nat) (acc : List Int) (a : Nat), a ≤ l.length → Ev (fun k => spec_ReadAgg.l k l n acc (a : Int)) ((snums l n acc a).map (fun p => (p.1, (p.2 : Int)))) := by
  intro n
  induction n with
  | zero => intro acc a _; simp only [spec_ReadAgg.l, snums]; exact Ev.now _
  | succ n ih =>
    intro acc a ha
    simp only [spec_ReadAgg.l, snums]
    refine Ev.bind (spec_l1Var_ev l hb hl a ha) ?_
    by_cases hok : (readVar a [] (l.drop a)).2.2 = true
    · obtain ⟨x, hx, e1, e2, e3, e4⟩ := step_at hb ha hok
      have hp := putVar_pos x
      have hz : ((((a + (putVar x).length : Nat) : Int)) == 0) = false := by simp only [beq_eq_false_iff_ne]; omega
      simp only [e1, e2, Int.toNat_natCast, spec_zig x hx, hz, Bool.false_eq_true, if_false]
      by_cases hbig : (x : Int) > 4611686018427387904
      · simp only [decide_eq_true hbig, if_true]
        rw [if_neg (fun h => by omega)]
        exact Ev.now _
      · simp only [decide_eq_false hbig, Bool.false_eq_true, if_false]
        rw [if_pos ⟨hok, by omega⟩]
        exact ih _ _ e4
    · have hz : ((readVar a [] (l.drop a)).2.1 == 0) = true := by
        have h := readVar_ok a (l.drop a) []
        have h2 : (readVar a [] (l.drop a)).2.2 = decide ((readVar a [] (l.drop a)).2.1 > 0) := by
          have := congrArg (fun z => z.2.2) h; exact this
        rw [h2] at hok
        simp only [decide_eq_true_eq] at hok
        have h3 := readVar_nonneg a (l.drop a) []
        simp only [beq_iff_eq]; omega
      simp only [hz, if_true]
      rw [if_neg (fun h => hok h.1)]
      exact Ev.now _
theorem snums_of {l : List Int} (hb : Bytes l) : ∀ (n : Nat) (acc : List Int) (a : Nat) (L : List Int) (b : Nat), a ≤ l.length → snums l n acc a = some (L, b) → dnums l n acc a = some (L, b) := by
  intro n
  induction n with
  | zero => intro acc a L b _ h; exact h
  | succ n ih =>
    intro acc a L b ha h
    simp only [snums] at h
    simp only [dnums]
    by_cases hok : (readVar a [] (l.drop a)).2.2 = true ∧ (readVar a [] (l.drop a)).1 ≤ 4611686018427387904
    · rw [if_pos hok] at h
      rw [if_pos hok.1]
      obtain ⟨x, hx, e1, e2, e3, e4⟩ := step_at hb ha hok.1
      refine ih _ _ _ _ ?_ h
      rw [e2, Int.toNat_natCast]; exact e4
    · rw [if_neg hok] at h; cases h
theorem of_dnums {l : List Int} (hb : Bytes l) : ∀ (n : Nat) (acc : List Int) (a : Nat) (L : List Int) (b : Nat), a ≤ l.length → smallOk (L.drop acc.length) → dnums l n acc a = some (L, b) → snums l n acc a = some (L, b) := by
  intro n
  induction n with
  | zero => intro acc a L b _ _ h; exact h
  | succ n ih =>
    intro acc a L b ha hs h
    have hsplit := dnums_split hb (n + 1) acc a L b ha h
    simp only [dnums] at h
    simp only [snums]
    by_cases hok : (readVar a [] (l.drop a)).2.2 = true
    · rw [if_pos hok] at h
      obtain ⟨x, hx, e1, e2, e3, e4⟩ := step_at hb ha hok
      rw [e1, e2, Int.toNat_natCast] at h ⊢
      obtain ⟨ys, h1, _⟩ := dnums_split hb n _ _ L b e4 h
      have hz : -1000000000000000000 ≤ zag (x : Int) ∧ zag (x : Int) ≤ 1000000000000000000 := by
        refine hs _ ?_
        rw [h1, List.append_assoc, List.drop_left]
        simp
      have hle : x ≤ 4611686018427387904 := by
        have h3 := zig_le hz
        rw [zig_zag] at h3
        omega
      rw [if_pos ⟨hok, by omega⟩]
      refine ih _ _ L b e4 (fun y hy => hs y ?_) h
      rw [h1] at hy ⊢
      rw [List.drop_left] at hy
      rw [List.append_assoc, List.drop_left]
      exact List.mem_append_right _ hy
    · rw [if_neg hok] at h; cases h
theorem putAll_bytes : ∀ l : List Int, Bytes (putAll l)
  | [] => Bytes.nil
  | n :: t => Bytes.app (putVar_bytes _) (putAll_bytes t)
theorem aggB_bytes (c s mn mx : Int) (h : List Int) (f : Bool) : Bytes (aggB c s mn mx h f) := by
  unfold aggB
  intro x hx
  rcases List.mem_cons.1 hx with hx | hx
  · rw [hx]; split <;> omega
  · exact putAll_bytes _ x hx
abbrev noneAgg : Int × Int × Int × Int × List Int × Bool × Bool := (0, 0, 0, 0, [], false, false)
/-- what both answer -/
def readAggR (l : List Int) : Int × Int × Int × Int × List Int × Bool × Bool :=
  match dnums l 12 [] 1 with
  | none => noneAgg
  | some (L, _) => if goodAgg (rd L 0) (rd L 1) (rd L 2) (rd L 3) (L.drop 4) (rd l 0 == 1) ∧ aggB (rd L 0) (rd L 1) (rd L 2) (rd L 3) (L.drop 4) (rd l 0 == 1) = l then (rd L 0, rd L 1, rd L 2, rd L 3, L.drop 4, (rd l 0 == 1), true) else noneAgg
theorem list12 {L : List Int} (h : L.length = 12) : [rd L 0, rd L 1, rd L 2, rd L 3] ++ L.drop 4 = L := by
  match L, h with
  | a :: b :: c :: d :: t, _ => rfl
theorem impl_ReadAgg_ev (l : List Int) (hb : Bytes l) (hl : l.length ≤ 1048576) (hl1 : 0 < l.length) : Ev (fun k => impl_ReadAgg.f k l) (readAggR l) := by
  unfold impl_ReadAgg.f readAggR
  simp only [if_neg (show ¬ l.length = 0 by omega)]
  refine Ev.bind (impl_l_ev l hb (by omega) 12 [] 1 (by omega)) ?_
  cases hd : dnums l 12 [] 1 with
  | none => simp only [Option.map_none, Option.elim_none]; exact Ev.now _
  | some p =>
    obtain ⟨L, b⟩ := p
    simp only [Option.map_some, Option.elim_some]
    unfold impl_ReadAgg.g
    refine Ev.bind (impl_GoodAgg_ev _ _ _ _ _ _) ?_
    by_cases hg : goodAgg (rd L 0) (rd L 1) (rd L 2) (rd L 3) (L.drop 4) (rd l 0 == 1)
    · simp only [decide_eq_true hg, if_true]
      have hs := goodAgg_small hg
      refine Ev.bind (impl_aggBytes_ev _ _ _ _ _ _ (by have := hg.2.1; omega) hs) ?_
      have hbb : Bytes (aggB (rd L 0) (rd L 1) (rd L 2) (rd L 3) (L.drop 4) (rd l 0 == 1)) := aggB_bytes _ _ _ _ _ _
      refine Ev.bind (Ev_some (by unfold bytes_Equal.f; rw [strOfNums_eq _ _ hbb hb])) ?_
      by_cases he : aggB (rd L 0) (rd L 1) (rd L 2) (rd L 3) (L.drop 4) (rd l 0 == 1) = l
      · simp only [decide_eq_true he, if_true]
        rw [if_pos ⟨hg, he⟩]
        exact Ev.now _
      · simp only [decide_eq_false he, Bool.false_eq_true, if_false]
        rw [if_neg (fun h => he h.2)]
        exact Ev.now _
    · simp only [decide_eq_false hg, Bool.false_eq_true, if_false]
      rw [if_neg (fun h => hg h.1)]
      exact Ev.now _
/-- what is read is what is written: where nothing is left over -/
theorem agg_bytes_iff {l : List Int} (hb : Bytes l) (hl1 : 0 < l.length) {L : List Int} {b : Nat} (h : dnums l 12 [] 1 = some (L, b)) :
    aggB (rd L 0) (rd L 1) (rd L 2) (rd L 3) (L.drop 4) (rd l 0 == 1) = l ↔ rd l 0 ≤ 1 ∧ ¬ (b : Int) < (l.length : Int) := by
  obtain ⟨xs, h1, h2, _, h4, h5⟩ := dnums_split hb 12 [] 1 L b (by omega) h
  rw [List.nil_append] at h1
  have hL : L.length = 12 := by rw [h1]; simpa using h2
  unfold aggB
  rw [list12 hL, h1, putAll_zag]
  have h0 := hb.rd 0
  match l, hl1 with
  | c :: t, _ =>
    have hc : rd (c :: t) 0 = c := rfl
    rw [hc] at h0 ⊢
    have h6 : t = xs.flatMap putVar ++ (c :: t).drop b := by simpa using h4
    constructor
    · intro he
      injection he with e1 e2
      have hlen := congrArg List.length h6
      rw [← e2, List.length_append, List.length_drop] at hlen
      refine ⟨?_, ?_⟩
      · by_cases h : (c == 1) = true
        · have : c = 1 := by simpa using h
          omega
        · rw [if_neg h] at e1; omega
      · have hlt := congrArg List.length e2
        simp only [List.length_cons] at hlen h5 ⊢
        omega
    · rintro ⟨hc1, hbl⟩
      have hd : (c :: t).drop b = [] := List.drop_eq_nil_of_le (by omega)
      rw [hd, List.append_nil] at h6
      rw [← h6]
      congr 1
      by_cases h : c = 1
      · subst h; rfl
      · rw [if_neg (by simpa using h)]; omega
theorem spec_ReadAgg_ev (l : List Int) (hb : Bytes l) (hl : l.length ≤ 1048576) (hl1 : 0 < l.length) : Ev (fun k => spec_ReadAgg.f k l) (readAggR l) := by
  unfold spec_ReadAgg.f
  simp only [if_neg (show ¬ l.length = 0 by omega)]
  have hne : rd l 0 > 1 → readAggR l = noneAgg := by
    intro hc
    unfold readAggR
    cases hd : dnums l 12 [] 1 with
    | none => rfl
    | some p =>
      obtain ⟨L, b⟩ := p
      show (if _ then _ else _) = _
      rw [if_neg (fun h => by have := ((agg_bytes_iff hb hl1 hd).1 h.2).1; omega)]
  by_cases hc : rd l 0 > 1
  · simp only [decide_eq_true hc, if_true]
    rw [hne hc]
    exact Ev.now _
  · simp only [decide_eq_false hc, Bool.false_eq_true, if_false]
    refine Ev.bind (spec_l_ev l hb (by omega) 12 [] 1 (by omega)) ?_
    cases hd : snums l 12 [] 1 with
    | none =>
      simp only [Option.map_none, Option.elim_none]
      have : readAggR l = noneAgg := by
        unfold readAggR
        cases hd2 : dnums l 12 [] 1 with
        | none => rfl
        | some p =>
          obtain ⟨L, b⟩ := p
          show (if _ then _ else _) = _
          by_cases hg : goodAgg (rd L 0) (rd L 1) (rd L 2) (rd L 3) (L.drop 4) (rd l 0 == 1)
          · exfalso
            have hs := goodAgg_small hg
            obtain ⟨xs, h1, h2, _⟩ := dnums_split hb 12 [] 1 L b (by omega) hd2
            have hL : L.length = 12 := by rw [h1]; simpa using h2
            rw [list12 hL] at hs
            have := of_dnums hb 12 [] 1 L b (by omega) (by simpa using hs) hd2
            rw [hd] at this
            cases this
          · rw [if_neg (fun h => hg h.1)]
      rw [this]
      exact Ev.now _
    | some p =>
      obtain ⟨L, b⟩ := p
      have hd2 := snums_of hb 12 [] 1 L b (by omega) hd
      simp only [Option.map_some, Option.elim_some]
      unfold spec_ReadAgg.g
      have hiff := agg_bytes_iff hb hl1 hd2
      have hR : readAggR l = if goodAgg (rd L 0) (rd L 1) (rd L 2) (rd L 3) (L.drop 4) (rd l 0 == 1) ∧ aggB (rd L 0) (rd L 1) (rd L 2) (rd L 3) (L.drop 4) (rd l 0 == 1) = l then (rd L 0, rd L 1, rd L 2, rd L 3, L.drop 4, (rd l 0 == 1), true) else noneAgg := by
        unfold readAggR
        rw [hd2]
      rw [hR]
      by_cases hbl : (b : Int) < (l.length : Int)
      · simp only [decide_eq_true hbl, if_true]
        rw [if_neg (fun h => (hiff.1 h.2).2 hbl)]
        exact Ev.now _
      · simp only [decide_eq_false hbl, Bool.false_eq_true, if_false]
        refine Ev.bind (spec_GoodAgg_ev _ _ _ _ _ _) ?_
        by_cases hg : goodAgg (rd L 0) (rd L 1) (rd L 2) (rd L 3) (L.drop 4) (rd l 0 == 1)
        · simp only [decide_eq_true hg, if_true]
          rw [if_pos ⟨hg, hiff.2 ⟨by omega, hbl⟩⟩]
          exact Ev.now _
        · simp only [decide_eq_false hg, Bool.false_eq_true, if_false]
          rw [if_neg (fun h => hg h.1)]
          exact Ev.now _
theorem readVar_next (at_ : Nat) (r : List Int) : ∀ (n : Nat) (p : List Int), (p = [] ∨ n ≠ 0) → vval (p ++ putVar n) ≤ 18446744073709551615 → p.length + (putVar n).length ≤ 10 →
    readVar at_ p (putVar n ++ r) = ((vval (p ++ putVar n) : Int), ((at_ + p.length + (putVar n).length : Nat) : Int), true) := by
  intro n
  induction n using Nat.strongRecOn with
  | ind n ih =>
    intro p hp hv hl
    by_cases h : 127 < n
    · rw [putVar_big h] at hv hl ⊢
      rw [List.length_cons] at hl
      have h2 := putVar_pos (n / 128)
      simp only [List.cons_append, readVar]
      rw [if_neg (by omega), if_neg (by omega)]
      have e : p ++ ((n % 128 + 128 : Nat) : Int) :: putVar (n / 128) = (p ++ [((n % 128 + 128 : Nat) : Int)]) ++ putVar (n / 128) := by simp
      rw [e] at hv ⊢
      rw [ih (n / 128) (by omega) _ (.inr (by omega)) hv (by simp; omega)]
      simp only [List.length_append, List.length_cons, List.length_nil, Prod.mk.injEq, true_and, and_true]
      omega
    · rw [putVar_small (by omega)] at hv hl ⊢
      simp only [List.length_singleton] at hl
      have hc : (p = [] ∨ (n : Int) ≠ 0) ∧ (p.length = 9 → (n : Int) ≤ 1) := by
        refine ⟨hp.imp id (by omega), fun h9 => ?_⟩
        rw [vval_snoc, h9] at hv
        have h3 : ((n : Int) % 128).toNat = n := by omega
        rw [h3] at hv
        omega
      simp only [List.cons_append, List.nil_append, readVar]
      rw [if_neg (by omega), if_pos (by omega), if_pos hc]
      simp only [List.length_singleton, Prod.mk.injEq, true_and, and_true]
      omega
theorem readVar_put (at_ n : Nat) (r : List Int) (h : n ≤ 18446744073709551615) : readVar at_ [] (putVar n ++ r) = ((n : Int), ((at_ + (putVar n).length : Nat) : Int), true) := by
  have := readVar_next at_ r n [] (.inl rfl) (by rw [List.nil_append, vval_putVar]; exact h) (by have := putVar_length_64 h; simpa using this)
  simpa [vval_putVar] using this
theorem zag_zig (x : Int) : zag ((zig x : Nat) : Int) = x := by
  unfold zag zig
  split <;> split <;> omega
theorem dnums_put {l r : List Int} : ∀ (xs acc : List Int) (a : Nat), smallOk xs → l.drop a = putAll xs ++ r → dnums l xs.length acc a = some (acc ++ xs, a + (putAll xs).length)
  | [], acc, a, _, _ => by simp [dnums, putAll]
  | x :: xs, acc, a, hs, h => by
    have hz := zig_le (hs x (by simp))
    simp only [putAll, List.append_assoc] at h
    simp only [List.length_cons, dnums]
    rw [h, readVar_put _ _ _ (by omega)]
    simp only [if_true, Int.toNat_natCast]
    rw [dnums_put xs _ _ (fun y hy => hs y (by simp [hy])) (by rw [← List.drop_drop, h, List.drop_left])]
    rw [zag_zig]
    simp only [putAll, List.length_append, Option.some.injEq, Prod.mk.injEq]
    exact ⟨by simp, by omega⟩
theorem readAgg_put {c s mn mx : Int} {h : List Int} {f : Bool} (hg : goodAgg c s mn mx h f) : readAggR (aggB c s mn mx h f) = (c, s, mn, mx, h, f, true) := by
  have hs := goodAgg_small hg
  have hl : ([c, s, mn, mx] ++ h).length = 12 := by rw [List.length_append, hg.2.1]; rfl
  have hd : dnums (aggB c s mn mx h f) 12 [] 1 = some ([c, s, mn, mx] ++ h, 1 + (putAll ([c, s, mn, mx] ++ h)).length) := by
    have := dnums_put (l := aggB c s mn mx h f) (r := []) ([c, s, mn, mx] ++ h) [] 1 hs (by simp [aggB])
    rw [hl] at this
    simpa using this
  have hf : (rd (aggB c s mn mx h f) 0 == 1) = f := by cases f <;> rfl
  unfold readAggR
  rw [hd]
  show (if _ then _ else _) = _
  rw [hf]
  rw [if_pos ⟨hg, rfl⟩]
  rfl
theorem bytesOf_bytes' (s : ByteArray) : Bytes (bytesOf s) := by
  intro x hx
  unfold bytesOf at hx
  obtain ⟨b, _, rfl⟩ := List.mem_map.1 hx
  have := b.toNat_lt
  omega
theorem or_u8_range (a b : Int) : 0 ≤ Go.bits .or .u8 a b ∧ Go.bits .or .u8 a b ≤ 255 := by
  unfold Go.bits
  show 0 ≤ IntKind.u8.wrap (((BitVec.ofInt 8 a ||| BitVec.ofInt 8 b).toNat : Nat) : Int) ∧ IntKind.u8.wrap (((BitVec.ofInt 8 a ||| BitVec.ofInt 8 b).toNat : Nat) : Int) ≤ 255
  simp only [IntKind.wrap, IntKind.bits, IntKind.signed]
  simp
  omega
theorem setBit_bytes {l : List Int} (h : Bytes l) (p : Int) : Bytes (setBit l p) := by
  intro x hx
  unfold setBit at hx
  rcases List.mem_or_eq_of_mem_set hx with h1 | h1
  · exact h x h1
  · rw [h1]; exact or_u8_range _ _
theorem foldBits_bytes (ps : List Int) : ∀ l : List Int, Bytes l → Bytes (ps.foldl setBit l) := by
  induction ps with
  | nil => intro l h; exact h
  | cons p ps ih => intro l h; exact ih _ (setBit_bytes h p)
theorem setKeys_bytes (ways : Nat) (keys : List ByteArray) : ∀ l : List Int, Bytes l → Bytes (setKeys ways l keys) := by
  unfold setKeys
  induction keys with
  | nil => intro l h; exact h
  | cons s keys ih => intro l h; exact ih _ (foldBits_bytes _ l h)
theorem fBits_bytes (m : List S51) (p : Int) : Bytes (fBits m p) := setKeys_bytes _ _ _ (fun x hx => by rw [(List.mem_replicate.1 hx).2]; omega)
theorem ent_bytes (n : Nat) (e : S51) : Bytes (ent n e) := by
  unfold ent
  refine Bytes.app (Bytes.app (Bytes.app (Bytes.app (Bytes.app (Bytes.app (putVar_bytes _) (putVar_bytes _)) (putVar_bytes _)) (Bytes.one (by omega) (by omega))) (putVar_bytes _)) (bytesOf_bytes' _)) ?_
  unfold aggO
  split
  · exact Bytes.nil
  · exact aggB_bytes _ _ _ _ _ _
theorem blk_bytes : ∀ (l : List S51) (ah : ByteArray), Bytes (blk ah l)
  | [], _ => Bytes.nil
  | e :: t, ah => Bytes.app (ent_bytes _ _) (blk_bytes t _)
theorem outO_bytes (m : List S51) : ∀ j, Bytes (outO m j)
  | 0 => Bytes.nil
  | j + 1 => Bytes.app (outO_bytes m j) (blk_bytes _ _)
theorem outI_bytes (m : List S51) : ∀ j, Bytes (outI m j)
  | 0 => Bytes.nil
  | j + 1 => Bytes.app (Bytes.app (Bytes.app (outI_bytes m j) (Bytes.app (putVar_bytes _) (bytesOf_bytes' _))) (putVar_bytes _)) (putVar_bytes _)
theorem tab_bytes (m : List S51) (p : Int) : Bytes (tab m p) := by
  unfold tab tBody
  refine Bytes.app (Bytes.app (Bytes.app (Bytes.app (Bytes.app (outO_bytes _ _) (fun x hx => ?_)) (outI_bytes _ _)) (Bytes.app (Bytes.app (fixedB_bytes _ _) (fixedB_bytes _ _)) (fixedB_bytes _ _))) (fixedB_bytes _ _)) (fun x hx => ?_)
  · rcases List.mem_cons.1 hx with h | h
    · rw [h]; omega
    · exact fBits_bytes m p x h
  · rcases hx with _ | ⟨_, hx⟩
    · omega
    · rcases hx with _ | ⟨_, hx⟩
      · omega
      · rcases hx with _ | ⟨_, hx⟩
        · omega
        · rcases hx with _ | ⟨_, hx⟩
          · omega
          · cases hx
def bef (m : List S51) (i : Nat) : ByteArray := if i % 4 = 0 then ⟨#[]⟩ else (rd_T51 m ((i - 1 : Nat) : Int)).f0
def encAt (m : List S51) (i : Nat) : List Int := ent (lcp (bef m i) (rd_T51 m (i : Int)).f0) (rd_T51 m (i : Int))
def encs (m : List S51) : Nat → List Int
  | 0 => []
  | i + 1 => encs m i ++ encAt m i
theorem rd_chk {m : List S51} {j q : Nat} (h : q < (chk m j).length) : rd_T51 (chk m j) (q : Int) = rd_T51 m ((4 * j + q : Nat) : Int) := by
  have hl := chk_length m j
  rw [rd51_lt h, rd51_lt (show 4 * j + q < m.length by omega)]
  simp [chk]
theorem encs_blk (m : List S51) (j : Nat) (hj : encs m (4 * j) = outO m j) : ∀ q, q ≤ (chk m j).length → encs m (4 * j + q) = outO m j ++ blk ⟨#[]⟩ ((chk m j).take q) := by
  intro q
  induction q with
  | zero => intro _; simp [hj, blk]
  | succ q ih =>
    intro hq
    have hl := chk_length m j
    rw [blk_take (chk m j) (by omega), ← List.append_assoc, ← ih (by omega), ← Nat.add_assoc]
    show encs m (4 * j + q) ++ encAt m (4 * j + q) = _
    congr 1
    unfold encAt
    rw [rd_chk (by omega)]
    congr 1
    unfold bef
    cases q with
    | zero => rw [if_pos (by omega)]; rfl
    | succ q =>
      rw [if_neg (by omega)]
      show lcp _ _ = lcp (rd_T51 (chk m j) (q : Int)).f0 _
      rw [rd_chk (by omega)]
      rw [show 4 * j + (q + 1) - 1 = 4 * j + q by omega]
theorem encs_out (m : List S51) : ∀ j, j ≤ tN m → encs m (min (4 * j) m.length) = outO m j := by
  intro j
  induction j with
  | zero => intro _; simp [encs, outO]
  | succ j ih =>
    intro hj
    unfold tN at hj
    have h4 : min (4 * j) m.length = 4 * j := by omega
    have hb := encs_blk m j (by rw [← h4]; exact ih (by unfold tN; omega)) (chk m j).length (Nat.le_refl _)
    have hl := chk_length m j
    rw [List.take_length] at hb
    rw [show min (4 * (j + 1)) m.length = 4 * j + (chk m j).length by omega, hb]
    rfl
theorem encs_all (m : List S51) : encs m m.length = outO m (tN m) := by
  have := encs_out m (tN m) (Nat.le_refl _)
  rwa [show min (4 * tN m) m.length = m.length by unfold tN; omega] at this
theorem encs_pre (m : List S51) {n : Nat} : ∀ i, i ≤ n → ∃ r, encs m n = encs m i ++ r ∧ (i < n → ∃ r', r = encAt m i ++ r') := by
  induction n with
  | zero => intro i hi; obtain rfl : i = 0 := by omega
            exact ⟨[], by simp, fun h => by omega⟩
  | succ n ih =>
    intro i hi
    by_cases e : i = n + 1
    · subst e; exact ⟨[], by simp, fun h => by omega⟩
    · obtain ⟨r, h1, h2⟩ := ih i (by omega)
      refine ⟨r ++ encAt m n, ?_, fun _ => ?_⟩
      · show encs m n ++ encAt m n = _
        rw [h1, List.append_assoc]
      · by_cases e2 : i = n
        · subst e2
          have : r = [] := by simpa using h1
          exact ⟨[], by rw [this]; simp⟩
        · obtain ⟨r', h3⟩ := h2 (by omega)
          exact ⟨r' ++ encAt m n, by rw [h3, List.append_assoc]⟩
def rnum (L : Nat) (l : List Int) (a : Nat) (b : Bool) : Nat × Nat × Bool := if b = true then (0, a, true) else if (readVar a [] (l.drop a)).2.2 = true ∧ (readVar a [] (l.drop a)).1 ≤ (L : Int) then ((readVar a [] (l.drop a)).1.toNat, (readVar a [] (l.drop a)).2.1.toNat, false) else (0, a, true)
theorem rnum_bad (L : Nat) (l : List Int) (a : Nat) : rnum L l a true = (0, a, true) := rfl
theorem rnum_ok {l : List Int} (hb : Bytes l) {L a n a2 : Nat} (ha : a ≤ l.length) (h : rnum L l a false = (n, a2, false)) : n ≤ L ∧ l.drop a = putVar n ++ l.drop a2 ∧ a < a2 ∧ a2 ≤ l.length ∧ ∀ L2, n ≤ L2 → rnum L2 l a false = (n, a2, false) := by
  unfold rnum at h
  rw [if_neg (by decide)] at h
  by_cases hok : (readVar a [] (l.drop a)).2.2 = true ∧ (readVar a [] (l.drop a)).1 ≤ (L : Int)
  · rw [if_pos hok] at h
    obtain ⟨x, hx, e1, e2, e3, e4⟩ := step_at hb ha hok.1
    have hp := putVar_pos x
    have hok2 := hok
    rw [e1] at hok2
    rw [e1, e2, Int.toNat_natCast, Int.toNat_natCast] at h
    simp only [Prod.mk.injEq, and_true] at h
    obtain ⟨rfl, rfl⟩ := h
    refine ⟨by omega, e3, by omega, e4, fun L2 hL => ?_⟩
    unfold rnum
    rw [if_neg (by decide), if_pos ⟨hok.1, by rw [e1]; omega⟩, e1, e2, Int.toNat_natCast, Int.toNat_natCast]
  · rw [if_neg hok] at h
    simp at h
theorem rnum_at {l : List Int} (hb : Bytes l) (L a : Nat) (b : Bool) (ha : a ≤ l.length) : a ≤ (rnum L l a b).2.1 ∧ (rnum L l a b).2.1 ≤ l.length ∧ (rnum L l a b).1 ≤ L ∧ ((rnum L l a b).2.2 = false → a < (rnum L l a b).2.1) := by
  cases hr : rnum L l a b with
  | mk n p =>
    obtain ⟨a2, b2⟩ := p
    cases b2 with
    | true =>
      unfold rnum at hr
      have h2 : n = 0 ∧ a2 = a := by
        split at hr
        · simp only [Prod.mk.injEq] at hr; omega
        · split at hr
          · simp at hr
          · simp only [Prod.mk.injEq] at hr; omega
      simp only
      exact ⟨by omega, by omega, by omega, fun h => by cases h⟩
    | false =>
      cases b with
      | true => simp [rnum_bad] at hr
      | false =>
        obtain ⟨h1, _, h3, h4, _⟩ := rnum_ok hb ha hr
        exact ⟨by simp only; omega, by simp only; omega, by simp only; omega, fun _ => by simp only; omega⟩
def rtk (l : List Int) (a : Nat) (b : Bool) (n : Nat) : List Int × Nat × Bool := if b = true then ([], a, true) else if a + n ≤ l.length then ((l.take (a + n)).drop a, a + n, false) else ([], a, true)
theorem rtk_at {l : List Int} {a n : Nat} {b : Bool} (ha : a ≤ l.length) : a ≤ (rtk l a b n).2.1 ∧ (rtk l a b n).2.1 ≤ l.length := by
  unfold rtk
  split
  · exact ⟨Nat.le_refl _, ha⟩
  · split
    · exact ⟨by simp only; omega, by simpa using by assumption⟩
    · exact ⟨Nat.le_refl _, ha⟩
theorem inum_ev (l : List Int) (hb : Bytes l) (hl : l.length ≤ 1048576) (a : Nat) (ha : a ≤ l.length) (b : Bool) : Ev (fun k => impl_readTable.num k l (a : Int) b) (((rnum 1000000000 l a b).1 : Int), ((rnum 1000000000 l a b).2.1 : Int), (rnum 1000000000 l a b).2.2) := by
  unfold impl_readTable.num
  have h0 := impl_ReadVar_ev l hb (by omega) (a : Int)
  rw [if_pos (by omega), Int.toNat_natCast] at h0
  refine Ev.bind h0 (Ev_cast (Ev.now _) ?_)
  unfold rnum
  cases b with
  | true => rfl
  | false =>
    simp only [Bool.false_eq_true, if_false]
    cases hok : (readVar a [] (l.drop a)).2.2 with
    | false => simp
    | true =>
      obtain ⟨x, hx, e1, e2, e3, e4⟩ := step_at hb ha hok
      rw [e1, e2]
      by_cases hbig : x ≤ 1000000000
      · simp only [show ¬ (x : Int) > 1000000000 by omega, show (x : Int) ≤ ((1000000000 : Nat) : Int) by omega, decide_false, Bool.false_eq_true, Bool.true_eq_false, if_false, if_true, and_self, Int.toNat_natCast]
        rw [w64 (by omega) (by omega)]
      · simp only [show (x : Int) > 1000000000 by omega, show ¬ (x : Int) ≤ ((1000000000 : Nat) : Int) by omega, decide_true, Bool.true_eq_false, if_true, if_false, and_false]
        rfl
theorem itk_eq (l : List Int) (hl : l.length ≤ 1048576) (a n : Nat) (b : Bool) (ha : a ≤ l.length) (hn : n ≤ 1000000000) : impl_readTable.tk l (a : Int) b (n : Int) = some ((rtk l a b n).1, ((rtk l a b n).2.1 : Int), (rtk l a b n).2.2) := by
  unfold impl_readTable.tk rtk
  cases b with
  | true => rfl
  | false =>
    simp only [Bool.false_eq_true, if_false]
    rw [w64 (by omega) (by omega), within_eq, Option.bind_some]
    by_cases h : a + n ≤ l.length
    · rw [if_pos h, if_pos (by simp only [decide_eq_true_eq]; omega), if_pos (by omega)]
      rw [show ((a : Int) + (n : Int)).toNat = a + n by omega, Int.toNat_natCast]
      simp
    · rw [if_neg h, if_neg (by simp only [decide_eq_true_eq]; omega)]
theorem rnum_put {l r : List Int} {L a n : Nat} (h : l.drop a = putVar n ++ r) (hn : n ≤ L) (hL : L ≤ 18446744073709551615) : rnum L l a false = (n, a + (putVar n).length, false) := by
  unfold rnum
  rw [if_neg (by decide), h, readVar_put _ _ _ (by omega), if_pos ⟨rfl, by simp only; omega⟩]
  simp only [Int.toNat_natCast]
def rkd (l : List Int) (a : Nat) (b : Bool) : Int × Nat × Bool := if (rtk l a b 1).2.2 = true then (0, (rtk l a b 1).2.1, true) else (rd l (a : Int), (rtk l a b 1).2.1, false)
theorem rtk_len {l : List Int} {a n : Nat} {b : Bool} (h : (rtk l a b n).2.2 = false) : (rtk l a b n).1 = (l.take (a + n)).drop a ∧ (rtk l a b n).1.length = n ∧ a + n ≤ l.length ∧ (rtk l a b n).2.1 = a + n := by
  unfold rtk at h ⊢
  split at h
  · cases h
  · rename_i hb
    rw [if_neg hb]
    split at h
    · rename_i hle
      rw [if_pos hle]
      exact ⟨rfl, by simp only [List.length_drop, List.length_take]; omega, hle, rfl⟩
    · cases h
theorem rd_take_drop {l : List Int} {a n : Nat} (h : a < l.length) (hn : 0 < n) : rd ((l.take (a + n)).drop a) 0 = rd l (a : Int) := by
  rw [rd_lt h, show (0 : Int) = ((0 : Nat) : Int) from rfl, rd_lt (by rw [List.length_drop, List.length_take]; omega)]
  simp
theorem ikd_eq (l : List Int) (hb : Bytes l) (hl : l.length ≤ 1048576) (a : Nat) (b : Bool) (ha : a ≤ l.length) : impl_readTable.kd l (a : Int) b = some ((rkd l a b).1, ((rkd l a b).2.1 : Int), (rkd l a b).2.2) := by
  unfold impl_readTable.kd rkd
  have h := itk_eq l hl a 1 b ha (by omega)
  rw [show ((1 : Nat) : Int) = 1 from rfl] at h
  rw [h, Option.bind_some]
  cases hc : (rtk l a b 1).2.2 with
  | true => simp
  | false =>
    obtain ⟨h1, h2, h3, h4⟩ := rtk_len hc
    simp only [Bool.false_eq_true, if_false]
    rw [if_pos h2, h1, rd_take_drop (by omega) (by omega)]
    have := hb.rd (a : Int)
    rw [w64 (by omega) (by omega)]
def rag (l : List Int) (a : Nat) (b : Bool) (n : Nat) : S49 × Nat × Bool := if (rtk l a b n).2.2 = true ∨ n = 0 then (z49, (rtk l a b n).2.1, (rtk l a b n).2.2) else (⟨(readAggR (rtk l a b n).1).1, (readAggR (rtk l a b n).1).2.1, (readAggR (rtk l a b n).1).2.2.1, (readAggR (rtk l a b n).1).2.2.2.1, (readAggR (rtk l a b n).1).2.2.2.2.1, (readAggR (rtk l a b n).1).2.2.2.2.2.1⟩, (rtk l a b n).2.1, !(readAggR (rtk l a b n).1).2.2.2.2.2.2)
theorem iag_ev (l : List Int) (hb : Bytes l) (hl : l.length ≤ 1048576) (a n : Nat) (b : Bool) (ha : a ≤ l.length) (hn : n ≤ 1000000000) : Ev (fun k => impl_readTable.ag k l (a : Int) b (n : Int)) ((rag l a b n).1, ((rag l a b n).2.1 : Int), (rag l a b n).2.2) := by
  unfold impl_readTable.ag rag
  refine Ev.bind (Ev_some (itk_eq l hl a n b ha hn)) ?_
  by_cases h : (rtk l a b n).2.2 = true ∨ n = 0
  · rw [if_pos h]
    simp only [if_pos (show (rtk l a b n).2.2 = true ∨ (n : Int) = 0 from h.imp id (by omega))]
    exact Ev.now _
  · rw [if_neg h]
    simp only [if_neg (show ¬ ((rtk l a b n).2.2 = true ∨ (n : Int) = 0) from fun h2 => h (h2.imp id (by omega)))]
    have hf : (rtk l a b n).2.2 = false := by
      cases hc : (rtk l a b n).2.2 with
      | true => exact absurd (.inl hc) h
      | false => rfl
    obtain ⟨h1, h2, h3, h4⟩ := rtk_len hf
    refine Ev.bind (impl_ReadAgg_ev _ (by rw [h1]; exact (hb.take _).drop _) (by omega) (by omega)) ?_
    exact Ev.now _
def ren (l : List Int) (a : Nat) (b : Bool) (before : ByteArray) : S51 × Nat × Bool :=
  let p1 := rnum 1000000000 l a b
  let p2 := rnum 1000000000 l p1.2.1 p1.2.2
  let p3 := rnum 1000000000 l p2.2.1 p2.2.2
  let p4 := rkd l p3.2.1 p3.2.2
  let p5 := rnum 1000000000 l p4.2.1 p4.2.2
  let p6 := rtk l p5.2.1 p5.2.2 p2.1
  if before.size < p1.1 then (z51, p6.2.1, true) else
    let p7 := rag l p6.2.1 p6.2.2 p5.1
    (⟨before.extract 0 p1.1 ++ strOfNums p6.1, p3.1, p4.1, p7.1⟩, p7.2.1, p7.2.2)
theorem rkd_at {l : List Int} {a : Nat} {b : Bool} (ha : a ≤ l.length) : (rkd l a b).2.1 ≤ l.length := by
  have := (rtk_at (n := 1) (b := b) ha).2
  unfold rkd
  split <;> exact this
theorem rtk_size {l : List Int} {a n : Nat} {b : Bool} : (rtk l a b n).1.length ≤ l.length := by
  unfold rtk
  split
  · simp
  · split
    · simp only [List.length_drop, List.length_take]; omega
    · simp
theorem rag_at {l : List Int} {a n : Nat} {b : Bool} (ha : a ≤ l.length) : (rag l a b n).2.1 ≤ l.length := by
  have := (rtk_at (n := n) (b := b) ha).2
  unfold rag
  split <;> exact this
theorem ien_ev (l : List Int) (hb : Bytes l) (hl : l.length ≤ 8000) (a : Nat) (b : Bool) (before : ByteArray) (ha : a ≤ l.length) (hs : before.size ≤ 900000) :
    Ev (fun k => impl_readTable.en k l (a : Int) b before) ((ren l a b before).1, ((ren l a b before).2.1 : Int), (ren l a b before).2.2) ∧ (ren l a b before).2.1 ≤ l.length ∧ (ren l a b before).1.f0.size ≤ before.size + 8000 := by
  unfold impl_readTable.en ren
  have hl2 : l.length ≤ 1048576 := by omega
  have a1 := rnum_at hb 1000000000 a b ha
  obtain ⟨⟨n1, t1, b1⟩, e1⟩ : ∃ p, rnum 1000000000 l a b = p := ⟨_, rfl⟩
  have v1 := inum_ev l hb hl2 a ha b
  rw [e1] at a1 v1
  have a2 := rnum_at hb 1000000000 t1 b1 a1.2.1
  obtain ⟨⟨n2, t2, b2⟩, e2⟩ : ∃ p, rnum 1000000000 l t1 b1 = p := ⟨_, rfl⟩
  have v2 := inum_ev l hb hl2 t1 a1.2.1 b1
  rw [e2] at a2 v2
  have a3 := rnum_at hb 1000000000 t2 b2 a2.2.1
  obtain ⟨⟨n3, t3, b3⟩, e3⟩ : ∃ p, rnum 1000000000 l t2 b2 = p := ⟨_, rfl⟩
  have v3 := inum_ev l hb hl2 t2 a2.2.1 b2
  rw [e3] at a3 v3
  have a4 := rkd_at (b := b3) a3.2.1
  obtain ⟨⟨n4, t4, b4⟩, e4⟩ : ∃ p, rkd l t3 b3 = p := ⟨_, rfl⟩
  have v4 := ikd_eq l hb hl2 t3 b3 a3.2.1
  rw [e4] at v4
  simp only at a4
  rw [e4] at a4
  have a5 := rnum_at hb 1000000000 t4 b4 a4
  obtain ⟨⟨n5, t5, b5⟩, e5⟩ : ∃ p, rnum 1000000000 l t4 b4 = p := ⟨_, rfl⟩
  have v5 := inum_ev l hb hl2 t4 a4 b4
  rw [e5] at a5 v5
  have a6 := rtk_at (n := n2) (b := b5) a5.2.1
  have s6 := rtk_size (l := l) (a := t5) (n := n2) (b := b5)
  obtain ⟨⟨M, t6, b6⟩, e6⟩ : ∃ p, rtk l t5 b5 n2 = p := ⟨_, rfl⟩
  have v6 := itk_eq l hl2 t5 n2 b5 a5.2.1 a2.2.2.1
  simp only at a6 s6
  rw [e6] at a6 s6 v6
  have a7 := rag_at (n := n5) (b := b6) a6.2
  have v7 := iag_ev l hb hl2 t6 n5 b6 a6.2 a5.2.2.1
  simp only [e1, e2, e3, e4, e5, e6] at *
  have hM : (strOfNums M).size = M.length := strOfNums_size M
  refine ⟨Ev.bind v1 (Ev.bind v2 (Ev.bind v3 (Ev.bind (Ev_some v4) (Ev.bind v5 (Ev.bind (Ev_some v6) ?_))))), ?_, ?_⟩
  · by_cases h : before.size < n1
    · simp only [if_pos h, if_pos (show (n1 : Int) > (before.size : Int) by omega)]
      exact Ev.now _
    · simp only [if_neg h, if_neg (show ¬ (n1 : Int) > (before.size : Int) by omega)]
      simp only [Int.toNat_natCast, if_pos (show 0 ≤ (n1 : Int) ∧ n1 + (strOfNums M).size ≤ 1000000 from ⟨by omega, by rw [hM]; omega⟩)]
      exact Ev.bind v7 (Ev.now _)
  · split
    · exact a6.2
    · exact a7
  · split
    · have : z51.f0.size = 0 := rfl
      simp only; omega
    · simp only [ByteArray.size_append, ByteArray.size_extract, hM]
      omega
theorem ext_list (x : ByteArray) (a b : Nat) : (x.extract a b).data.toList = (x.data.toList.drop a).take (b - a) := by
  simp only [ByteArray.data_extract, Array.toList_extract, List.extract_eq_take_drop]
theorem ba_len (x : ByteArray) : x.data.toList.length = x.size := Array.length_toList
theorem ext_join {x : ByteArray} {n : Nat} (h : n ≤ x.size) : x.extract 0 n ++ x.extract n x.size = x := by
  apply ByteArray.ext
  apply Array.ext'
  rw [ByteArray.data_append, Array.toList_append, ext_list, ext_list, List.drop_zero, Nat.sub_zero, List.take_of_length_le (l := List.drop n x.data.toList) (by rw [List.length_drop, ba_len]; exact Nat.le_refl _)]
  exact List.take_append_drop _ _
theorem strOfNums_bytesOf (s : ByteArray) : strOfNums (bytesOf s) = s := by
  unfold strOfNums bytesOf
  apply ByteArray.ext
  apply Array.ext'
  simp only [List.map_map]
  have : (fun n : Int => UInt8.ofNat n.toNat) ∘ (fun b : UInt8 => (b.toNat : Int)) = id := by
    funext b
    simp
  rw [this]
  simp
theorem lcpF_spec (a b : ByteArray) : ∀ (d n : Nat), n + d = min a.size b.size → (∀ i, i < n → bt a (i : Int) = bt b (i : Int)) → ∀ i, i < lcpF a b d n → bt a (i : Int) = bt b (i : Int)
  | 0, n, _, h => h
  | d + 1, n, hd, h => by
    unfold lcpF
    by_cases e : bt a (n : Int) = bt b (n : Int)
    · rw [if_pos e]
      refine lcpF_spec a b d (n + 1) (by omega) (fun i hi => ?_)
      by_cases h2 : i = n
      · subst h2; exact e
      · exact h i (by omega)
    · rw [if_neg e]; exact h
theorem lcp_ext (a b : ByteArray) : a.extract 0 (lcp a b) = b.extract 0 (lcp a b) := by
  have hl := lcp_le a b
  have hs := lcpF_spec a b (min a.size b.size) 0 (by omega) (fun i hi => by omega)
  apply ByteArray.ext
  apply Array.ext'
  rw [ext_list, ext_list, List.drop_zero, List.drop_zero, Nat.sub_zero]
  apply List.ext_getElem
  · rw [List.length_take, List.length_take, ba_len, ba_len]; omega
  · intro i h1 h2
    rw [List.length_take] at h1
    have hi : i < lcp a b := by omega
    have e := hs i hi
    unfold bt at e
    rw [dif_pos (by rw [Int.toNat_natCast]; omega), dif_pos (by rw [Int.toNat_natCast]; omega)] at e
    rw [List.getElem_take, List.getElem_take, Array.getElem_toList, Array.getElem_toList]
    apply UInt8.toNat.inj
    exact_mod_cast e
/-- an entry that was written is read -/
theorem readAgg_O {e : S51} (hg : eGood e = true) (h0 : (aggO e).length ≠ 0) : readAggR (aggO e) = (e.f3.f0, e.f3.f1, e.f3.f2, e.f3.f3, e.f3.f4, e.f3.f5, true) := by
  obtain ⟨h1, h2, h3⟩ := of_decide_eq_true hg
  unfold aggO at h0 ⊢
  rcases h3 with h3 | h3
  · rw [if_pos h3.1] at h0; simp at h0
  · rw [if_neg (by omega)]; exact readAgg_put h3.2
theorem aggO_zero {e : S51} (hg : eGood e = true) (h0 : (aggO e).length = 0) : e.f3 = z49 := by
  obtain ⟨h1, h2, h3⟩ := of_decide_eq_true hg
  rcases h3 with h3 | h3
  · obtain ⟨z1, z2, z3, z4, z5, z6⟩ := h3.2
    replace z5 := List.eq_nil_of_length_eq_zero z5
    clear h0 hg h1 h2 h3
    rcases e with ⟨k, s, d, ⟨a0, a1, a2, a3, a4, a5⟩⟩
    simp only at z1 z2 z3 z4 z5 z6 ⊢
    subst z1; subst z2; subst z3; subst z4; subst z5; subst z6
    rfl
  · unfold aggO at h0
    rw [if_neg (by omega)] at h0
    simp [aggB] at h0
theorem eGood_kind {e : S51} (hg : eGood e = true) : 1 ≤ e.f2 ∧ e.f2 ≤ 3 := by
  obtain ⟨h1, h2, h3⟩ := of_decide_eq_true hg
  omega
theorem drop_step {l p r : List Int} {a : Nat} (h : l.drop a = p ++ r) : l.drop (a + p.length) = r ∧ (p ≠ [] → a + p.length ≤ l.length) := by
  refine ⟨by rw [← List.drop_drop, h, List.drop_left], fun hp => ?_⟩
  have := congrArg List.length h
  rw [List.length_drop, List.length_append] at this
  have : 0 < p.length := List.length_pos_iff.2 hp
  omega
theorem take_at {l p r : List Int} {a : Nat} (h : l.drop a = p ++ r) : (l.take (a + p.length)).drop a = p := by
  rw [List.drop_take, h, Nat.add_sub_cancel_left, List.take_left]
theorem rd_drop {l t : List Int} {a : Nat} {x : Int} (h : l.drop a = x :: t) : rd l (a : Int) = x := by
  have hl : a < l.length := by
    have := congrArg List.length h
    rw [List.length_drop, List.length_cons] at this
    omega
  rw [rd_lt hl]
  rw [drop_cons hl] at h
  exact (List.cons.inj h).1
theorem rtk_in {l : List Int} {a n : Nat} (h : a + n ≤ l.length) : rtk l a false n = ((l.take (a + n)).drop a, a + n, false) := by
  unfold rtk
  rw [if_neg (by decide), if_pos h]
theorem ren_put {l r : List Int} {a : Nat} {e : S51} {ah : ByteArray} (hg : eGood e = true) (ha : a ≤ l.length) (h : l.drop a = ent (lcp ah e.f0) e ++ r) : ren l a false ah = (e, a + (ent (lcp ah e.f0) e).length, false) := by
  have hO := eOk_of_good hg
  have hk := eGood_kind hg
  have hl := lcp_le ah e.f0
  have hgl := aggO_length hO
  have hs1 := hO.1
  have hs2 := hO.2.1
  have hext := lcp_ext ah e.f0
  have hjoin := ext_join (x := e.f0) hl.2
  obtain ⟨n, hn⟩ : ∃ n, n = lcp ah e.f0 := ⟨_, rfl⟩
  rw [← hn] at h hl hext hjoin ⊢
  obtain ⟨suf, hsuf⟩ : ∃ s, s = e.f0.extract n e.f0.size := ⟨_, rfl⟩
  have hsl : (bytesOf suf).length = e.f0.size - n := by rw [hsuf, bytesOf_length, extract_size]
  unfold ent at h ⊢
  rw [← hsuf] at h hjoin ⊢
  simp only [List.append_assoc] at h
  obtain ⟨G, hG⟩ : ∃ G, G = aggO e := ⟨_, rfl⟩
  rw [← hG] at h hgl ⊢
  have e1 := rnum_put (L := 1000000000) h (by omega) (by omega)
  obtain ⟨h1, l1⟩ := drop_step h
  have e2 := rnum_put (L := 1000000000) h1 (by omega) (by omega)
  obtain ⟨h2, l2⟩ := drop_step h1
  have e3 := rnum_put (L := 1000000000) h2 (by omega) (by omega)
  obtain ⟨h3, l3⟩ := drop_step h2
  have hd := rd_drop h3
  obtain ⟨h4, l4⟩ := drop_step h3
  have l4 := l4 (by simp)
  have e5 := rnum_put (L := 1000000000) h4 (by omega) (by omega)
  obtain ⟨h5, l5⟩ := drop_step h4
  have l5 := l5 (putVar_ne_nil _)
  have t6 := take_at h5
  obtain ⟨h6, _⟩ := drop_step h5
  have l6 := congrArg List.length h5
  rw [List.length_drop, List.length_append, List.length_append] at l6
  have t7 := take_at h6
  rw [List.length_singleton] at h4 l4 e5 h5 l5 t6 h6 l6 t7
  have k4 : ∀ q, q = a + (putVar n).length + (putVar (e.f0.size - n)).length + (putVar e.f1.toNat).length → rkd l q false = (e.f2 % 256, q + 1, false) := by
    rintro q rfl
    unfold rkd
    rw [rtk_in l4, hd]
    simp only [Bool.false_eq_true, if_false]
  have k4 := k4 _ rfl
  have k6 : ∀ q, q = a + (putVar n).length + (putVar (e.f0.size - n)).length + (putVar e.f1.toNat).length + 1 + (putVar G.length).length → rtk l q false (e.f0.size - n) = (bytesOf suf, q + (bytesOf suf).length, false) := by
    rintro q rfl
    rw [hsl] at t6 l6
    rw [rtk_in (by omega), t6, hsl]
  have k6 := k6 _ rfl
  have k7 : ∀ q, q = a + (putVar n).length + (putVar (e.f0.size - n)).length + (putVar e.f1.toNat).length + 1 + (putVar G.length).length + (bytesOf suf).length → rag l q false G.length = (e.f3, q + G.length, false) := by
    rintro q rfl
    have hq : rtk l (a + (putVar n).length + (putVar (e.f0.size - n)).length + (putVar e.f1.toNat).length + 1 + (putVar G.length).length + (bytesOf suf).length) false G.length = (G, a + (putVar n).length + (putVar (e.f0.size - n)).length + (putVar e.f1.toNat).length + 1 + (putVar G.length).length + (bytesOf suf).length + G.length, false) := by
      rw [rtk_in (by omega), t7]
    unfold rag
    rw [hq]
    by_cases h0 : G.length = 0
    · rw [if_pos (.inr h0), aggO_zero hg (by rw [← hG]; exact h0)]
    · rw [if_neg (by simp [h0])]
      have := readAgg_O hg (by rw [← hG]; exact h0)
      rw [← hG] at this
      rw [this]
      rfl
  have k7 := k7 _ rfl
  unfold ren
  simp only [e1, e2, e3, k4, e5, k6, k7]
  rw [if_neg (by omega)]
  rw [hext, strOfNums_bytesOf, hjoin]
  rw [show e.f2 % 256 = e.f2 by omega, show ((e.f1.toNat : Nat) : Int) = e.f1 by omega]
  simp only [List.length_append, List.length_singleton, Prod.mk.injEq, true_and, and_true]
  omega
def rrun (l : List Int) : Nat → List S51 × Nat × Bool × ByteArray
  | 0 => ([], 0, false, ⟨#[]⟩)
  | j + 1 => ((rrun l j).1 ++ [(ren l (rrun l j).2.1 (rrun l j).2.2.1 (if j % 4 = 0 then ⟨#[]⟩ else (rrun l j).2.2.2)).1], (ren l (rrun l j).2.1 (rrun l j).2.2.1 (if j % 4 = 0 then ⟨#[]⟩ else (rrun l j).2.2.2)).2.1, (ren l (rrun l j).2.1 (rrun l j).2.2.1 (if j % 4 = 0 then ⟨#[]⟩ else (rrun l j).2.2.2)).2.2, (ren l (rrun l j).2.1 (rrun l j).2.2.1 (if j % 4 = 0 then ⟨#[]⟩ else (rrun l j).2.2.2)).1.f0)
theorem irun_ev (l : List Int) (hb : Bytes l) (hl : l.length ≤ 8000) : ∀ j, j ≤ 100 → Ev (fun k => impl_readTable.run k l j) ((rrun l j).1, ((rrun l j).2.1 : Int), (rrun l j).2.2.1, (rrun l j).2.2.2) ∧ (rrun l j).2.1 ≤ l.length ∧ (rrun l j).2.2.2.size ≤ 8000 * j ∧ (rrun l j).1.length = j := by
  intro j
  induction j with
  | zero => intro _; exact ⟨Ev.now _, Nat.zero_le _, Nat.le_refl _, rfl⟩
  | succ j ih =>
    intro hj
    obtain ⟨h1, h2, h3, h4⟩ := ih (by omega)
    obtain ⟨b, hbf⟩ : ∃ b, b = (if j % 4 = 0 then (⟨#[]⟩ : ByteArray) else (rrun l j).2.2.2) := ⟨_, rfl⟩
    have hs : b.size ≤ 8000 * j := by
      rw [hbf]; split
      · exact Nat.zero_le _
      · exact h3
    obtain ⟨g1, g2, g3⟩ := ien_ev l hb hl (rrun l j).2.1 (rrun l j).2.2.1 b h2 (by omega)
    simp only [impl_readTable.run, rrun, ← hbf]
    refine ⟨Ev.bind h1 ?_, g2, by omega, by simp [h4]⟩
    simp only [← hbf]
    exact Ev.bind g1 (Ev.now _)
theorem good_each {m : List S51} (h : goodEntries m = true) {j : Nat} (hj : j < m.length) : eGood (rd_T51 m (j : Int)) = true := by
  unfold goodEntries at h
  simp only [Bool.and_eq_true] at h
  exact okFrom_all m m.length 0 (by omega) (by omega) h.1 j (by omega) hj
theorem rrun_put {m : List S51} {l r : List Int} (hg : goodEntries m = true) (h : l = encs m m.length ++ r) : ∀ j, j ≤ m.length → rrun l j = (m.take j, (encs m j).length, false, if j = 0 then ⟨#[]⟩ else (rd_T51 m ((j - 1 : Nat) : Int)).f0) := by
  intro j
  induction j with
  | zero => intro _; rfl
  | succ j ih =>
    intro hj
    have ih := ih (by omega)
    obtain ⟨r1, e1, e2⟩ := encs_pre m (n := m.length) j (by omega)
    obtain ⟨r2, e2⟩ := e2 (by omega)
    have hd : l.drop (encs m j).length = encAt m j ++ (r2 ++ r) := by rw [h, e1, e2, List.append_assoc, List.append_assoc, List.drop_left]
    have ha : (encs m j).length ≤ l.length := by rw [h, e1]; simp only [List.length_append]; omega
    have hbf : (if j % 4 = 0 then (⟨#[]⟩ : ByteArray) else (rrun l j).2.2.2) = bef m j := by
      rw [ih]
      unfold bef
      split
      · rfl
      · rw [if_neg (by omega)]
    have hr := ren_put (ah := bef m j) (good_each hg (by omega)) ha hd
    simp only [rrun, hbf]
    rw [ih]
    simp only
    rw [hr, if_neg (by omega)]
    rw [take_snoc m (by omega)]
    simp only [encs, List.length_append, encAt, Nat.add_sub_cancel]
def Tab (l : List Int) (E : List S51) : Prop := goodEntries E = true ∧ 1 ≤ E.length ∧ E.length ≤ 100 ∧ ∃ q : Nat, 1 ≤ q ∧ q ≤ 20 ∧ tab E (q : Int) = l
theorem tab_encs (m : List S51) (p : Int) : ∃ r, tab m p = encs m m.length ++ r ∧ 20 ≤ r.length := by
  unfold tab tBody
  rw [encs_all]
  simp only [List.append_assoc]
  exact ⟨_, rfl, by simp only [List.length_append, fixedB_length, List.length_cons, List.length_nil]; omega⟩
theorem tab_run {l : List Int} {E : List S51} (h : Tab l E) : (rrun l E.length).1 = E ∧ (rrun l E.length).2.2.1 = false := by
  obtain ⟨hg, _, _, q, _, _, rfl⟩ := h
  obtain ⟨r, hr, _⟩ := tab_encs E (q : Int)
  have := rrun_put hg hr E.length (Nat.le_refl _)
  rw [this]
  exact ⟨List.take_length, rfl⟩
theorem itries_ev (l : List Int) (hb : Bytes l) (E : List S51) (hm : ∀ e ∈ E, eOk e) (h0 : 1 ≤ E.length) (hl : E.length ≤ 100) : ∀ d p, 1 ≤ p → p + d ≤ 21 →
    ((∃ q : Nat, p ≤ q ∧ q < p + d ∧ tab E (q : Int) = l) ∧ Ev (fun k => impl_readTable.tries k l E d p) (E, 0)) ∨ ((∀ q : Nat, p ≤ q → q < p + d → tab E (q : Int) ≠ l) ∧ Ev (fun k => impl_readTable.tries k l E d p) ([], 4)) := by
  intro d
  induction d with
  | zero => intro p _ _; exact .inr ⟨fun q h1 h2 => by omega, Ev.now _⟩
  | succ d ih =>
    intro p h1 h2
    have ht := impl_table_ev E hm h0 hl (p : Int) (by omega)
    have he : bytes_Equal.f (tab E (p : Int)) l = some (decide (tab E (p : Int) = l)) := by unfold bytes_Equal.f; rw [strOfNums_eq _ _ (tab_bytes _ _) hb]
    by_cases e : tab E (p : Int) = l
    · refine .inl ⟨⟨p, Nat.le_refl _, by omega, e⟩, ?_⟩
      simp only [impl_readTable.tries]
      refine Ev.bind ht (Ev.bind (Ev_some he) ?_)
      simp only [decide_eq_true e, if_true]
      exact Ev.now _
    · have step : ∀ r, Ev (fun k => impl_readTable.tries k l E d (p + 1)) r → Ev (fun k => impl_readTable.tries k l E (d + 1) p) r := by
        intro r hr
        simp only [impl_readTable.tries]
        refine Ev.bind ht (Ev.bind (Ev_some he) ?_)
        simp only [decide_eq_false e, Bool.false_eq_true, if_false]
        exact hr
      rcases ih (p + 1) (by omega) (by omega) with ⟨⟨q, g1, g2, g3⟩, h⟩ | ⟨g, h⟩
      · exact .inl ⟨⟨q, by omega, by omega, g3⟩, step _ h⟩
      · refine .inr ⟨fun q h3 h4 => ?_, step _ h⟩
        by_cases h5 : q = p
        · subst h5; exact e
        · exact g q (by omega) (by omega)
theorem ig_ev (l : List Int) (hb : Bytes l) (hl : l.length ≤ 8000) (many : Nat) (h1 : 1 ≤ many ∧ many ≤ 100) :
    (∃ E, Tab l E ∧ E.length = many ∧ Ev (fun k => impl_readTable.g k l many) (E, 0)) ∨ ((∀ E, Tab l E → E.length ≠ many) ∧ Ev (fun k => impl_readTable.g k l many) ([], 4)) := by
  obtain ⟨r1, r2, r3, r4⟩ := irun_ev l hb hl many h1.2
  unfold impl_readTable.g
  have none : ((rrun l many).2.2.1 = true ∨ goodEntries (rrun l many).1 = false) → ∀ E, Tab l E → E.length ≠ many := by
    rintro h E hE rfl
    obtain ⟨e1, e2⟩ := tab_run hE
    rw [e1, e2, hE.1] at h
    simp at h
  cases hbad : (rrun l many).2.2.1 with
  | true =>
    refine .inr ⟨none (.inl hbad), Ev.bind r1 ?_⟩
    simp only [hbad, if_true]
    exact Ev.now _
  | false =>
    have hG := impl_GoodEntries_ev (rrun l many).1 (by omega)
    cases hg : goodEntries (rrun l many).1 with
    | false =>
      rw [hg] at hG
      refine .inr ⟨none (.inr hg), Ev.bind r1 ?_⟩
      simp only [hbad, Bool.false_eq_true, if_false]
      refine Ev.bind hG ?_
      simp only [Bool.false_eq_true, if_false]
      exact Ev.now _
    | true =>
      rw [hg] at hG
      have go : ∀ r, Ev (fun k => impl_readTable.tries k l (rrun l many).1 20 1) r → Ev (fun k => (impl_readTable.run k l many).bind fun st => if st.2.2.1 = true then some ([], 4) else (impl_GoodEntries.f k st.1).bind fun b => if b = true then impl_readTable.tries k l st.1 20 1 else some ([], 4)) r := by
        intro r hr
        refine Ev.bind r1 ?_
        simp only [hbad, Bool.false_eq_true, if_false]
        refine Ev.bind hG ?_
        simp only [if_true]
        exact hr
      rcases itries_ev l hb (rrun l many).1 (good_all hg) (by omega) (by omega) 20 1 (by omega) (by omega) with ⟨⟨q, g1, g2, g3⟩, h⟩ | ⟨g, h⟩
      · exact .inl ⟨_, ⟨hg, by omega, by omega, q, g1, by omega, g3⟩, r4, go _ h⟩
      · refine .inr ⟨?_, go _ h⟩
        rintro E hE rfl
        obtain ⟨e1, _⟩ := tab_run hE
        obtain ⟨_, _, _, q, q1, q2, q3⟩ := hE
        rw [e1] at g
        exact g q q1 (by omega) q3
theorem l1v (l : List Int) (hb : Bytes l) (hl : l.length ≤ 8000) (a : Nat) (ha : a ≤ l.length) :
    (∃ v, Ev (fun k => spec_l1Var.f k l (a : Int)) (v, 0)) ∨ (∃ n : Nat, n ≤ 18446744073709551615 ∧ Ev (fun k => spec_l1Var.f k l (a : Int)) ((n : Int), ((a + (putVar n).length : Nat) : Int)) ∧ a + (putVar n).length ≤ l.length) := by
  have h := spec_l1Var_ev l hb (by omega) a ha
  cases hok : (readVar a [] (l.drop a)).2.2 with
  | true =>
    obtain ⟨n, h1, h2, h3, _, h5⟩ := step_at hb ha hok
    rw [h2, h3] at h
    exact .inr ⟨n, h1, h, h5⟩
  | false =>
    have h2 := readVar_ok a (l.drop a) []
    have h3 := readVar_nonneg a (l.drop a) []
    have h4 : (readVar a [] (l.drop a)).2.1 = 0 := by
      have := congrArg (fun p => p.2.2) h2
      simp only [hok] at this
      have := of_decide_eq_false this.symm
      omega
    rw [h4] at h
    exact .inl ⟨_, h⟩
theorem l1v_put (l : List Int) (hb : Bytes l) (hl : l.length ≤ 8000) {a n : Nat} {r : List Int} (ha : a ≤ l.length) (h : l.drop a = putVar n ++ r) (hn : n ≤ 18446744073709551615) :
    Ev (fun k => spec_l1Var.f k l (a : Int)) ((n : Int), ((a + (putVar n).length : Nat) : Int)) := by
  have := spec_l1Var_ev l hb (by omega) a ha
  rw [h, readVar_put _ _ _ hn] at this
  exact this
theorem sent_tot (l : List Int) (hb : Bytes l) (hl : l.length ≤ 8000) (a : Nat) (ha : a ≤ l.length) (ah : ByteArray) (hs : ah.size ≤ 900000) :
    ∃ o : Bool × S51 × Int, Ev (fun k => spec_l7Entries.ent k l (a : Int) ah) o ∧ (o.1 = true → ∃ q : Nat, o.2.2 = (q : Int) ∧ q ≤ l.length ∧ o.2.1.f0.size ≤ ah.size + 8000) := by
  unfold spec_l7Entries.ent
  have bad : ∀ o : Bool × S51 × Int, o = (false, z51, 0) → (o.1 = true → ∃ q : Nat, o.2.2 = (q : Int) ∧ q ≤ l.length ∧ o.2.1.f0.size ≤ ah.size + 8000) := by rintro o rfl h; cases h
  rcases l1v l hb hl a ha with ⟨v, e1⟩ | ⟨n1, b1, e1, t1⟩
  · exact ⟨_, Ev.bind e1 (Ev_cast (Ev.now _) (by simp only [if_true])), bad _ rfl⟩
  have p1 := putVar_pos n1
  obtain ⟨a1, ha1⟩ : ∃ a1, a1 = a + (putVar n1).length := ⟨_, rfl⟩
  rw [← ha1] at e1 t1
  rcases l1v l hb hl a1 t1 with ⟨v, e2⟩ | ⟨n2, b2, e2, t2⟩
  · refine ⟨_, Ev.bind e1 ?_, bad _ rfl⟩
    simp only [if_neg (show ¬ (a1 : Int) = 0 by omega)]
    exact Ev.bind e2 (Ev_cast (Ev.now _) (by simp only [if_true]))
  have p2 := putVar_pos n2
  obtain ⟨a2, ha2⟩ : ∃ a2, a2 = a1 + (putVar n2).length := ⟨_, rfl⟩
  rw [← ha2] at e2 t2
  rcases l1v l hb hl a2 t2 with ⟨v, e3⟩ | ⟨n3, b3, e3, t3⟩
  · refine ⟨_, Ev.bind e1 ?_, bad _ rfl⟩
    simp only [if_neg (show ¬ (a1 : Int) = 0 by omega)]
    refine Ev.bind e2 ?_
    simp only [if_neg (show ¬ (a2 : Int) = 0 by omega)]
    exact Ev.bind e3 (Ev_cast (Ev.now _) (by simp only [if_true]))
  have p3 := putVar_pos n3
  obtain ⟨a3, ha3⟩ : ∃ a3, a3 = a2 + (putVar n3).length := ⟨_, rfl⟩
  rw [← ha3] at e3 t3
  by_cases hd : (l.length : Int) ≤ (a3 : Int)
  · refine ⟨_, Ev.bind e1 ?_, bad _ rfl⟩
    simp only [if_neg (show ¬ (a1 : Int) = 0 by omega)]
    refine Ev.bind e2 ?_
    simp only [if_neg (show ¬ (a2 : Int) = 0 by omega)]
    refine Ev.bind e3 ?_
    simp only [if_neg (show ¬ (a3 : Int) = 0 by omega), if_pos hd]
    exact Ev.now _
  have hw := Aside0.mk (show wrap64 ((a3 : Int) + 1) = ((a3 + 1 : Nat) : Int) by rw [w64 (by omega) (by omega)]; omega)
  rcases l1v l hb hl (a3 + 1) (by omega) with ⟨v, e4⟩ | ⟨n4, b4, e4, t4⟩
  · refine ⟨_, Ev.bind e1 ?_, bad _ rfl⟩
    simp only [if_neg (show ¬ (a1 : Int) = 0 by omega)]
    refine Ev.bind e2 ?_
    simp only [if_neg (show ¬ (a2 : Int) = 0 by omega)]
    refine Ev.bind e3 ?_
    simp only [if_neg (show ¬ (a3 : Int) = 0 by omega), if_neg hd, hw.out]
    exact Ev.bind e4 (Ev_cast (Ev.now _) (by simp only [if_true]))
  have p4 := putVar_pos n4
  obtain ⟨a4, ha4⟩ : ∃ a4, a4 = a3 + 1 + (putVar n4).length := ⟨_, rfl⟩
  rw [← ha4] at e4 t4
  obtain ⟨R, hR⟩ : ∃ R : Nat → Option (Bool × S51 × Int), R = fun k => if (ah.size : Int) < (n1 : Int) then some (false, z51, 0) else if 8000 < (n2 : Int) then some (false, z51, 0) else if 8000 < (n4 : Int) then some (false, z51, 0) else if 1099511627776 < (n3 : Int) then some (false, z51, 0) else if (l.length : Int) < (a4 : Int) + (n2 : Int) + (n4 : Int) then some (false, z51, 0) else spec_l7Entries.tail k l (ah.extract 0 (n1 : Int).toNat ++ strOfNums ((l.take ((a4 : Int) + (n2 : Int)).toNat).drop (a4 : Int).toNat)) (n3 : Int) (wrap64 (rd l (a3 : Int))) (n4 : Int) ((a4 : Int) + (n2 : Int)) ((a4 : Int) + (n2 : Int) + (n4 : Int)) := ⟨_, rfl⟩
  have go : ∀ o, Ev R o → Ev (fun k => (spec_l1Var.f k l (a : Int)).bind fun p1 => if p1.2 = 0 then some (false, z51, 0) else (spec_l1Var.f k l p1.2).bind fun p2 => if p2.2 = 0 then some (false, z51, 0) else (spec_l1Var.f k l p2.2).bind fun p3 => if p3.2 = 0 then some (false, z51, 0) else if (l.length : Int) ≤ p3.2 then some (false, z51, 0) else (spec_l1Var.f k l (wrap64 (p3.2 + 1))).bind fun p4 => if p4.2 = 0 then some (false, z51, 0) else if 0 ≤ p1.1 ∧ 0 ≤ p2.1 ∧ 0 ≤ p3.1 ∧ 0 ≤ p4.1 ∧ 0 ≤ p3.2 ∧ 0 ≤ p4.2 ∧ p4.2 ≤ 1000000 ∧ ah.size ≤ 1000000 ∧ l.length ≤ 1000000 then if (ah.size : Int) < p1.1 then some (false, z51, 0) else if 8000 < p2.1 then some (false, z51, 0) else if 8000 < p4.1 then some (false, z51, 0) else if 1099511627776 < p3.1 then some (false, z51, 0) else if (l.length : Int) < p4.2 + p2.1 + p4.1 then some (false, z51, 0) else spec_l7Entries.tail k l (ah.extract 0 p1.1.toNat ++ strOfNums ((l.take (p4.2 + p2.1).toNat).drop p4.2.toNat)) p3.1 (wrap64 (rd l p3.2)) p4.1 (p4.2 + p2.1) (p4.2 + p2.1 + p4.1) else none) o := by
    intro o ho
    rw [hR] at ho
    refine Ev.bind e1 ?_
    simp only [if_neg (show ¬ (a1 : Int) = 0 by omega)]
    refine Ev.bind e2 ?_
    simp only [if_neg (show ¬ (a2 : Int) = 0 by omega)]
    refine Ev.bind e3 ?_
    simp only [if_neg (show ¬ (a3 : Int) = 0 by omega), if_neg hd, hw.out]
    refine Ev.bind e4 ?_
    simp only [if_neg (show ¬ (a4 : Int) = 0 by omega)]
    simp only [if_pos (show 0 ≤ (n1 : Int) ∧ 0 ≤ (n2 : Int) ∧ 0 ≤ (n3 : Int) ∧ 0 ≤ (n4 : Int) ∧ 0 ≤ (a3 : Int) ∧ 0 ≤ (a4 : Int) ∧ (a4 : Int) ≤ 1000000 ∧ ah.size ≤ 1000000 ∧ l.length ≤ 1000000 by omega)]
    exact ho
  by_cases q1 : (ah.size : Int) < (n1 : Int)
  · exact ⟨_, go _ (by rw [hR]; simp only [if_pos q1]; exact Ev.now _), bad _ rfl⟩
  by_cases q2 : 8000 < (n2 : Int)
  · exact ⟨_, go _ (by rw [hR]; simp only [if_neg q1, if_pos q2]; exact Ev.now _), bad _ rfl⟩
  by_cases q3 : 8000 < (n4 : Int)
  · exact ⟨_, go _ (by rw [hR]; simp only [if_neg q1, if_neg q2, if_pos q3]; exact Ev.now _), bad _ rfl⟩
  by_cases q4 : 1099511627776 < (n3 : Int)
  · exact ⟨_, go _ (by rw [hR]; simp only [if_neg q1, if_neg q2, if_neg q3, if_pos q4]; exact Ev.now _), bad _ rfl⟩
  by_cases q5 : (l.length : Int) < (a4 : Int) + (n2 : Int) + (n4 : Int)
  · exact ⟨_, go _ (by rw [hR]; simp only [if_neg q1, if_neg q2, if_neg q3, if_neg q4, if_pos q5]; exact Ev.now _), bad _ rfl⟩
  have hlen : ((l.take ((a4 : Int) + (n2 : Int)).toNat).drop (a4 : Int).toNat).length ≤ 8000 := by simp only [List.length_drop, List.length_take]; omega
  have hsz : (ah.extract 0 (n1 : Int).toNat ++ strOfNums ((l.take ((a4 : Int) + (n2 : Int)).toNat).drop (a4 : Int).toNat)).size ≤ ah.size + 8000 := by
    rw [ByteArray.size_append, ByteArray.size_extract, strOfNums_size]; omega
  have rest : ∀ o : Bool × S51 × Int, Ev (fun k => spec_l7Entries.tail k l (ah.extract 0 (n1 : Int).toNat ++ strOfNums ((l.take ((a4 : Int) + (n2 : Int)).toNat).drop (a4 : Int).toNat)) (n3 : Int) (wrap64 (rd l (a3 : Int))) (n4 : Int) ((a4 : Int) + (n2 : Int)) ((a4 : Int) + (n2 : Int) + (n4 : Int))) o → Ev R o := by
    intro o ho
    rw [hR]
    simp only [if_neg q1, if_neg q2, if_neg q3, if_neg q4, if_neg q5]
    exact ho
  unfold spec_l7Entries.tail at rest
  by_cases h0 : 0 < (n4 : Int)
  · simp only [if_pos h0] at rest
    have hbl : Bytes ((l.take ((a4 : Int) + (n2 : Int) + (n4 : Int)).toNat).drop ((a4 : Int) + (n2 : Int)).toNat) := (hb.take _).drop _
    have hA := spec_ReadAgg_ev _ hbl (by simp only [List.length_drop, List.length_take]; omega) (by simp only [List.length_drop, List.length_take]; omega)
    refine ⟨_, go _ (rest _ (Ev.bind hA (Ev.now _))), fun _ => ⟨a4 + n2 + n4, by simp only; omega, by omega, hsz⟩⟩
  · simp only [if_neg h0] at rest
    exact ⟨_, go _ (rest _ (Ev.now _)), fun _ => ⟨a4 + n2 + n4, by simp only; omega, by omega, hsz⟩⟩
theorem sent_put (l r : List Int) (hb : Bytes l) (hl : l.length ≤ 8000) {a : Nat} {e : S51} {ah : ByteArray} (hg : eGood e = true) (ha : a ≤ l.length) (hah : ah.size ≤ 900000) (h : l.drop a = ent (lcp ah e.f0) e ++ r) :
    Ev (fun k => spec_l7Entries.ent k l (a : Int) ah) (true, e, ((a + (ent (lcp ah e.f0) e).length : Nat) : Int)) := by
  have hO := eOk_of_good hg
  have hk := eGood_kind hg
  have hl2 := lcp_le ah e.f0
  have hgl := aggO_length hO
  have hs1 := hO.1
  have hs2 := hO.2.1
  have hext := lcp_ext ah e.f0
  have hjoin := ext_join (x := e.f0) hl2.2
  obtain ⟨n, hn⟩ : ∃ n, n = lcp ah e.f0 := ⟨_, rfl⟩
  rw [← hn] at h hl2 hext hjoin ⊢
  obtain ⟨suf, hsuf⟩ : ∃ s, s = e.f0.extract n e.f0.size := ⟨_, rfl⟩
  have hsl : (bytesOf suf).length = e.f0.size - n := by rw [hsuf, bytesOf_length, extract_size]
  unfold ent at h ⊢
  rw [← hsuf] at h hjoin ⊢
  simp only [List.append_assoc] at h
  obtain ⟨G, hG⟩ : ∃ G, G = aggO e := ⟨_, rfl⟩
  rw [← hG] at h hgl ⊢
  have e1 := l1v_put l hb hl ha h (by omega)
  obtain ⟨h1, l1⟩ := drop_step h
  have l1 := l1 (putVar_ne_nil _)
  have e2 := l1v_put l hb hl l1 h1 (by omega)
  obtain ⟨h2, l2⟩ := drop_step h1
  have l2 := l2 (putVar_ne_nil _)
  have e3 := l1v_put l hb hl l2 h2 (by omega)
  obtain ⟨h3, l3⟩ := drop_step h2
  have l3 := l3 (putVar_ne_nil _)
  have hd := rd_drop h3
  obtain ⟨h4, l4⟩ := drop_step h3
  have l4 := l4 (by simp)
  have e4 := l1v_put l hb hl l4 h4 (by omega)
  obtain ⟨h5, l5⟩ := drop_step h4
  have l5 := l5 (putVar_ne_nil _)
  have t6 := take_at h5
  obtain ⟨h6, _⟩ := drop_step h5
  have l6 := congrArg List.length h5
  rw [List.length_drop, List.length_append, List.length_append] at l6
  have t7 := take_at h6
  have p1 := putVar_pos n
  have p2 := putVar_pos (e.f0.size - n)
  have p3 := putVar_pos e.f1.toNat
  have p4 := putVar_pos G.length
  rw [List.length_singleton] at h4 l4 e4 h5 l5 t6 h6 l6 t7
  obtain ⟨a1, ha1⟩ : ∃ a1, a + (putVar n).length = a1 := ⟨_, rfl⟩
  rw [ha1] at e1 l1 h1 e2 l2 h2 e3 l3 h3 hd h4 l4 e4 h5 l5 t6 h6 l6 t7
  obtain ⟨a2, ha2⟩ : ∃ a2, a1 + (putVar (e.f0.size - n)).length = a2 := ⟨_, rfl⟩
  rw [ha2] at e2 l2 h2 e3 l3 h3 hd h4 l4 e4 h5 l5 t6 h6 l6 t7
  obtain ⟨a3, ha3⟩ : ∃ a3, a2 + (putVar e.f1.toNat).length = a3 := ⟨_, rfl⟩
  rw [ha3] at e3 l3 h3 hd h4 l4 e4 h5 l5 t6 h6 l6 t7
  obtain ⟨a4, ha4⟩ : ∃ a4, a3 + 1 + (putVar G.length).length = a4 := ⟨_, rfl⟩
  rw [ha4] at e4 h5 l5 t6 h6 l6 t7
  have hw := Aside0.mk (show wrap64 ((a3 : Int) + 1) = ((a3 + 1 : Nat) : Int) by rw [w64 (by omega) (by omega)]; omega)
  have hwk := Aside0.mk (show wrap64 (rd l (a3 : Int)) = e.f2 by rw [hd, w64 (by omega) (by omega)]; omega)
  unfold spec_l7Entries.ent
  refine Ev.bind e1 ?_
  simp only [if_neg (show ¬ (a1 : Int) = 0 by omega)]
  refine Ev.bind e2 ?_
  simp only [if_neg (show ¬ (a2 : Int) = 0 by omega)]
  refine Ev.bind e3 ?_
  simp only [if_neg (show ¬ (a3 : Int) = 0 by omega), if_neg (show ¬ (l.length : Int) ≤ (a3 : Int) by omega), hw.out]
  refine Ev.bind e4 ?_
  simp only [if_neg (show ¬ (a4 : Int) = 0 by omega)]
  simp only [if_pos (show 0 ≤ (n : Int) ∧ 0 ≤ ((e.f0.size - n : Nat) : Int) ∧ 0 ≤ ((e.f1.toNat : Nat) : Int) ∧ 0 ≤ (G.length : Int) ∧ 0 ≤ (a3 : Int) ∧ 0 ≤ (a4 : Int) ∧ (a4 : Int) ≤ 1000000 ∧ ah.size ≤ 1000000 ∧ l.length ≤ 1000000 by omega)]
  simp only [if_neg (show ¬ (ah.size : Int) < (n : Int) by omega), if_neg (show ¬ 8000 < ((e.f0.size - n : Nat) : Int) by omega), if_neg (show ¬ 8000 < (G.length : Int) by omega), if_neg (show ¬ 1099511627776 < ((e.f1.toNat : Nat) : Int) by omega), if_neg (show ¬ (l.length : Int) < (a4 : Int) + ((e.f0.size - n : Nat) : Int) + (G.length : Int) by omega)]
  have hq : ((a4 : Int) + ((e.f0.size - n : Nat) : Int)).toNat = a4 + (bytesOf suf).length := by omega
  have hq2 : ((a4 : Int) + ((e.f0.size - n : Nat) : Int) + (G.length : Int)).toNat = a4 + (bytesOf suf).length + G.length := by omega
  have hkey : ah.extract 0 n ++ suf = e.f0 := by rw [hext, hjoin]
  have hs : ((e.f1.toNat : Nat) : Int) = e.f1 := by omega
  have hend : (a4 : Int) + ((e.f0.size - n : Nat) : Int) + (G.length : Int) = ((a + ((((((putVar n ++ putVar (e.f0.size - n)) ++ putVar e.f1.toNat) ++ [e.f2 % 256]) ++ putVar G.length) ++ bytesOf suf) ++ G).length : Nat) : Int) := by
    simp only [List.length_append, List.length_singleton]
    omega
  rw [← hend]
  unfold spec_l7Entries.tail
  simp only [hq, hq2, Int.toNat_natCast, t6, strOfNums_bytesOf, hkey, hwk.out, hs]
  by_cases h0 : G.length = 0
  · simp only [if_neg (show ¬ 0 < (G.length : Int) by omega)]
    rw [← aggO_zero hg (by rw [← hG]; exact h0)]
    exact Ev.now _
  · simp only [if_pos (show 0 < (G.length : Int) by omega), t7]
    have hbG : Bytes G := by
      rw [← t7]; exact (hb.take _).drop _
    have hA := spec_ReadAgg_ev G hbG (by omega) (by omega)
    have := readAgg_O hg (by rw [← hG]; exact h0)
    rw [← hG] at this
    rw [this] at hA
    exact Ev.bind hA (Ev.now _)
theorem sscan_tot (l : List Int) (hb : Bytes l) (hl : l.length ≤ 8000) : ∀ (d : Nat) (E : List S51) (a : Nat) (ah : ByteArray), a ≤ l.length → ah.size ≤ 8000 * E.length → E.length + d ≤ 100 →
    ∃ r : List S51 × Bool, Ev (fun k => spec_l7Entries.scan k l d E (a : Int) ah) r ∧ (r.2 = true → r.1.length = E.length + d) := by
  intro d
  induction d with
  | zero => intro E a ah _ _ _; exact ⟨_, Ev.now _, fun _ => rfl⟩
  | succ d ih =>
    intro E a ah ha hs hd
    obtain ⟨b, hbf⟩ : ∃ b, b = (if E.length % 4 = 0 then (⟨#[]⟩ : ByteArray) else ah) := ⟨_, rfl⟩
    have hsb : b.size ≤ 8000 * E.length := by
      rw [hbf]; split
      · exact Nat.zero_le _
      · exact hs
    obtain ⟨⟨ok, x, q⟩, ho, hq⟩ := sent_tot l hb hl a ha b (by omega)
    simp only [spec_l7Entries.scan, ← hbf]
    cases ok with
    | false =>
      refine ⟨([], false), Ev.bind ho ?_, fun h => by cases h⟩
      simp only [Bool.false_eq_true, if_false]
      exact Ev.now _
    | true =>
      obtain ⟨q', rfl, hq2, hq3⟩ := hq rfl
      simp only at hq3
      obtain ⟨r, hr, hr2⟩ := ih (E ++ [x]) q' x.f0 hq2 (by simp; omega) (by simp; omega)
      refine ⟨r, Ev.bind ho ?_, fun h => by have := hr2 h; simp at this; omega⟩
      simp only [if_true]
      exact hr
theorem sscan_put {m : List S51} (l r : List Int) (hb : Bytes l) (hl : l.length ≤ 8000) (hg : goodEntries m = true) (hm : m.length ≤ 100) (h : l = encs m m.length ++ r) : ∀ (d j : Nat), j + d = m.length →
    Ev (fun k => spec_l7Entries.scan k l d (m.take j) ((encs m j).length : Int) (if j = 0 then ⟨#[]⟩ else (rd_T51 m ((j - 1 : Nat) : Int)).f0)) (m, true) := by
  intro d
  induction d with
  | zero =>
    intro j hj
    obtain rfl : j = m.length := by omega
    simp only [spec_l7Entries.scan]
    exact Ev_cast (Ev.now _) (by rw [List.take_length])
  | succ d ih =>
    intro j hj
    obtain ⟨r1, e1, e2⟩ := encs_pre m (n := m.length) j (by omega)
    obtain ⟨r2, e2⟩ := e2 (by omega)
    have hd : l.drop (encs m j).length = encAt m j ++ (r2 ++ r) := by rw [h, e1, e2, List.append_assoc, List.append_assoc, List.drop_left]
    have ha : (encs m j).length ≤ l.length := by rw [h, e1]; simp only [List.length_append]; omega
    have hjl : (m.take j).length = j := by rw [List.length_take]; omega
    have hbf : (if (m.take j).length % 4 = 0 then (⟨#[]⟩ : ByteArray) else (if j = 0 then ⟨#[]⟩ else (rd_T51 m ((j - 1 : Nat) : Int)).f0)) = bef m j := by
      rw [hjl]
      unfold bef
      split
      · rfl
      · rw [if_neg (by omega)]
    have hbs : (bef m j).size ≤ 900000 := by
      unfold bef
      split
      · exact Nat.zero_le _
      · have := (eOk_of_good (good_each hg (show j - 1 < m.length by omega))).1
        omega
    have hr := sent_put (ah := bef m j) l _ hb hl (good_each hg (by omega)) ha hbs hd
    have hn := ih (j + 1) (by omega)
    rw [if_neg (by omega), take_snoc m (by omega)] at hn
    simp only [spec_l7Entries.scan, hbf]
    refine Ev.bind hr ?_
    simp only [if_true]
    simp only [encs, List.length_append, encAt, Nat.add_sub_cancel] at hn
    exact hn
theorem Ev_unique {α : Type} {g : Nat → Option α} {r q : α} (h1 : Ev g r) (h2 : Ev g q) : r = q := by
  obtain ⟨a, h1⟩ := h1
  obtain ⟨b, h2⟩ := h2
  have e1 := h1 (max a b) (by omega)
  have e2 := h2 (max a b) (by omega)
  rw [e1] at e2
  exact Option.some.inj e2
theorem ps_range : ∀ j : Fin 20, 1 ≤ rd spec_l7Read.ps (j.val : Int) ∧ rd spec_l7Read.ps (j.val : Int) ≤ 20 := by decide +kernel
theorem ps_all : ∀ q : Fin 21, 1 ≤ q.val → ∃ j : Fin 20, rd spec_l7Read.ps (j.val : Int) = (q.val : Int) := by decide +kernel
theorem stries_ev (l : List Int) (hb : Bytes l) (E : List S51) (hm : ∀ e ∈ E, eOk e) (hl : E.length ≤ 100) : ∀ d j, j + d ≤ 20 →
    ((∃ i : Nat, j ≤ i ∧ i < j + d ∧ tab E (rd spec_l7Read.ps (i : Int)) = l) ∧ Ev (fun k => spec_l7Read.tries k l E d j) (E, 0)) ∨ ((∀ i : Nat, j ≤ i → i < j + d → tab E (rd spec_l7Read.ps (i : Int)) ≠ l) ∧ Ev (fun k => spec_l7Read.tries k l E d j) ([], 4)) := by
  intro d
  induction d with
  | zero => intro j _; exact .inr ⟨fun i h1 h2 => by omega, Ev.now _⟩
  | succ d ih =>
    intro j h2
    have hp := ps_range ⟨j, by omega⟩
    simp only at hp
    have ht := spec_l7Build_ev E hm hl (rd spec_l7Read.ps (j : Int)) hp
    have he := strOfNums_eq (tab E (rd spec_l7Read.ps (j : Int))) l (tab_bytes _ _) hb
    by_cases e : tab E (rd spec_l7Read.ps (j : Int)) = l
    · refine .inl ⟨⟨j, Nat.le_refl _, by omega, e⟩, ?_⟩
      rw [decide_eq_true e] at he
      simp only [spec_l7Read.tries]
      refine Ev.bind ht ?_
      simp only [if_pos (beq_iff_eq.mp he)]
      exact Ev.now _
    · have step : ∀ r, Ev (fun k => spec_l7Read.tries k l E d (j + 1)) r → Ev (fun k => spec_l7Read.tries k l E (d + 1) j) r := by
        intro r hr
        rw [decide_eq_false e] at he
        simp only [spec_l7Read.tries]
        refine Ev.bind ht ?_
        simp only [if_neg (beq_eq_false_iff_ne.mp he)]
        exact hr
      rcases ih (j + 1) (by omega) with ⟨⟨q, g1, g2, g3⟩, h⟩ | ⟨g, h⟩
      · exact .inl ⟨⟨q, by omega, by omega, g3⟩, step _ h⟩
      · refine .inr ⟨fun q h3 h4 => ?_, step _ h⟩
        by_cases h5 : q = j
        · subst h5; exact e
        · exact g q (by omega) (by omega)
theorem sg_ev (l : List Int) (hb : Bytes l) (hl : 20 ≤ l.length ∧ l.length ≤ 8000) (many : Nat) (h1 : 1 ≤ many ∧ many ≤ 100) :
    (∃ E, Tab l E ∧ E.length = many ∧ Ev (fun k => spec_l7Read.g k l (many : Int)) (E, 0)) ∨ ((∀ E, Tab l E → E.length ≠ many) ∧ Ev (fun k => spec_l7Read.g k l (many : Int)) ([], 4)) := by
  have hb2 : Bytes (l.take (l.length - 20)) := hb.take _
  have hl2 : (l.take (l.length - 20)).length ≤ 8000 := by rw [List.length_take]; omega
  have hf : ∀ r, Ev (fun k => spec_l7Entries.scan k (l.take (l.length - 20)) many [] ((0 : Nat) : Int) ⟨#[]⟩) r → Ev (fun k => spec_l7Entries.f k (l.take (l.length - 20)) (many : Int)) r := by
    intro r hr
    unfold spec_l7Entries.f
    simp only [if_pos (show 0 ≤ (many : Int) ∧ (many : Int) ≤ 1000000 by omega), Int.toNat_natCast]
    exact hr
  obtain ⟨⟨E1, ok⟩, hr, hr2⟩ := sscan_tot _ hb2 hl2 many [] 0 ⟨#[]⟩ (Nat.zero_le _) (Nat.zero_le _) (by simp; omega)
  have known : ∀ E, Tab l E → E.length = many → E1 = E ∧ ok = true := by
    rintro E ⟨hg, _, hE, q, _, _, ht⟩ rfl
    obtain ⟨r, e, er⟩ := tab_encs E (q : Int)
    rw [ht] at e
    have hl3 : l.take (l.length - 20) = encs E E.length ++ r.take (r.length - 20) := by
      have hlen := congrArg List.length e
      rw [List.length_append] at hlen
      rw [e, List.length_append, List.take_append, List.take_of_length_le (by omega)]
      congr 2
      omega
    have := sscan_put (l.take (l.length - 20)) _ hb2 hl2 hg hE hl3 E.length 0 (by omega)
    have := Ev_unique hr this
    simp only [Prod.mk.injEq] at this
    exact this
  have hr := hf _ hr
  unfold spec_l7Read.g
  cases ok with
  | false =>
    refine .inr ⟨fun E hE h => ?_, Ev.bind hr ?_⟩
    · exact absurd (known E hE h).2 (by decide)
    · simp only [Bool.false_eq_true, if_false]
      exact Ev.now _
  | true =>
    have hE1 : E1.length = many := by have := hr2 rfl; simpa using this
    have hG := spec_GoodEntries_ev E1 (by omega)
    cases hg : goodEntries E1 with
    | false =>
      rw [hg] at hG
      refine .inr ⟨fun E hE h => ?_, Ev.bind hr ?_⟩
      · have := (known E hE h).1
        subst this
        rw [hE.1] at hg
        cases hg
      · simp only [if_true]
        refine Ev.bind hG ?_
        simp only [Bool.false_eq_true, if_false]
        exact Ev.now _
    | true =>
      rw [hg] at hG
      have go : ∀ r, Ev (fun k => spec_l7Read.tries k l E1 20 0) r → Ev (fun k => (spec_l7Entries.f k (l.take (l.length - 20)) (many : Int)).bind fun p => if p.2 = true then (spec_GoodEntries.f k p.1).bind fun g => if g = true then spec_l7Read.tries k l p.1 20 0 else some ([], 4) else some ([], 4)) r := by
        intro r h
        refine Ev.bind hr ?_
        simp only [if_true]
        refine Ev.bind hG ?_
        simp only [if_true]
        exact h
      rcases stries_ev l hb E1 (good_all hg) (by omega) 20 0 (by omega) with ⟨⟨i, g1, g2, g3⟩, h⟩ | ⟨g, h⟩
      · have hp := ps_range ⟨i, by omega⟩
        simp only at hp
        exact .inl ⟨E1, ⟨hg, by omega, by omega, (rd spec_l7Read.ps (i : Int)).toNat, by omega, by omega, by rw [show (((rd spec_l7Read.ps (i : Int)).toNat : Nat) : Int) = rd spec_l7Read.ps (i : Int) by omega]; exact g3⟩, hE1, go _ h⟩
      · refine .inr ⟨fun E hE h2 => ?_, go _ h⟩
        have := (known E hE h2).1
        subst this
        obtain ⟨_, _, _, q, q1, q2, q3⟩ := hE
        obtain ⟨j, hj⟩ := ps_all ⟨q, by omega⟩ q1
        simp only at hj
        exact g j.val (by omega) (by omega) (by rw [hj]; exact q3)
theorem both_g (l : List Int) (hb : Bytes l) (hl : 20 ≤ l.length ∧ l.length ≤ 8000) (many : Nat) (h1 : 1 ≤ many ∧ many ≤ 100) :
    ∃ (E : List S51) (c : Int), Ev (fun k => impl_readTable.g k l many) (E, c) ∧ Ev (fun k => spec_l7Read.g k l (many : Int)) (E, c) ∧ E.length ≤ 100 ∧ ((c = 0 ∧ Tab l E) ∨ (c ≠ 0 ∧ E = [])) := by
  rcases ig_ev l hb hl.2 many h1 with ⟨E, t1, t2, t3⟩ | ⟨t1, t3⟩
  · rcases sg_ev l hb hl many h1 with ⟨E2, u1, u2, u3⟩ | ⟨u1, u3⟩
    · have e1 := (tab_run t1).1
      have e2 := (tab_run u1).1
      rw [t2] at e1
      rw [u2, e1] at e2
      subst e2
      exact ⟨E, 0, t3, u3, t1.2.2.1, .inl ⟨rfl, t1⟩⟩
    · exact absurd t2 (u1 E t1)
  · rcases sg_ev l hb hl many h1 with ⟨E2, u1, u2, u3⟩ | ⟨u1, u3⟩
    · exact absurd u2 (t1 E2 u1)
    · exact ⟨[], 4, t3, u3, by simp, .inr ⟨by decide, rfl⟩⟩
theorem beVal_fixedB : ∀ (m n : Nat), n < 256 ^ m → beVal (fixedB n m) = n
  | 0, n, h => by simp at h; subst h; rfl
  | m + 1, n, h => by
    show beVal (fixedB (n / 256) m ++ [((n % 256 : Nat) : Int)]) = n
    rw [beVal_snoc, beVal_fixedB m (n / 256) (by rw [Nat.pow_succ] at h; omega), Int.toNat_natCast]
    omega
theorem fixedB_beVal : ∀ (m : Nat) (l : List Int), l.length = m → Bytes l → fixedB (beVal l) m = l
  | 0, l, h, _ => by rw [List.eq_nil_of_length_eq_zero h]; rfl
  | m + 1, l, h, hb => by
    obtain ⟨p, c, rfl⟩ : ∃ p c, l = p ++ [c] := by
      rcases List.eq_nil_or_concat l with e | ⟨p, c, e⟩
      · rw [e] at h; simp at h
      · exact ⟨p, c, by rw [e, List.concat_eq_append]⟩
    have hc := hb c (by simp)
    rw [beVal_snoc]
    show fixedB ((beVal p * 256 + c.toNat) / 256) m ++ [(((beVal p * 256 + c.toNat) % 256 : Nat) : Int)] = _
    rw [show (beVal p * 256 + c.toNat) / 256 = beVal p by omega, show (((beVal p * 256 + c.toNat) % 256 : Nat) : Int) = c by omega, fixedB_beVal m p (by simpa using h) (fun x hx => hb x (by simp [hx]))]
theorem both_read (l : List Int) (hb : Bytes l) : ∃ (E : List S51) (c : Int), Ev (fun k => impl_readTable.f k l) (E, c) ∧ Ev (fun k => spec_l7Read.f k l) (E, c) ∧ E.length ≤ 100 ∧ ((c = 0 ∧ Tab l E) ∨ (c ≠ 0 ∧ E = [])) := by
  unfold impl_readTable.f spec_l7Read.f
  by_cases hs : l.length < 20 ∨ 8000 < l.length
  · simp only [if_pos hs]
    exact ⟨[], 1, Ev.now _, Ev.now _, by simp, .inr ⟨by decide, rfl⟩⟩
  simp only [if_neg hs]
  have hmk : (strOfNums [84, 66, 76, 49]).toList = ([84, 66, 76, 49] : List UInt8) := by rw [strOfNums_list]; rfl
  by_cases hm : (strOfNums (l.drop (l.length - 4))).toList = ([84, 66, 76, 49] : List UInt8)
  case neg =>
    refine ⟨[], 2, Ev.bind (Ev_some (show bytes_Equal.f (l.drop (l.length - 4)) [84, 66, 76, 49] = some false by unfold bytes_Equal.f; rw [hmk, beq_eq_false_iff_ne.mpr hm])) ?_, ?_, by simp, .inr ⟨by decide, rfl⟩⟩
    · simp only [Bool.false_eq_true, if_false]; exact Ev.now _
    · simp only [if_neg hm]; exact Ev.now _
  simp only [if_pos hm]
  have hcr := crcOf_range (l.take (l.length - 8))
  obtain ⟨cr, hcr2⟩ : ∃ cr : Nat, crcOf (l.take (l.length - 8)) = (cr : Int) := ⟨(crcOf (l.take (l.length - 8))).toNat, by omega⟩
  rw [hcr2] at hcr
  have hcs := spec_l1Crc_ev (l.take (l.length - 8)) (by rw [List.length_take]; omega)
  have hci := impl_Crc32c_ev (l.take (l.length - 8)) (by rw [List.length_take]; omega)
  rw [hcr2] at hcs hci
  have hwc := Aside0.mk (show wrap64 (cr : Int) = (cr : Int) from w64 (by omega) (by omega))
  have hfx := impl_fixed_ev cr (by omega)
  have hB4 : Bytes ((l.take (l.length - 4)).drop (l.length - 8)) := (hb.take _).drop _
  have hL4 : ((l.take (l.length - 4)).drop (l.length - 8)).length = 4 := by rw [List.length_drop, List.length_take]; omega
  have hv4 := beVal_lt _ hB4
  rw [hL4] at hv4
  have hn4 := spec_l1Number_ev _ hB4 (by omega)
  have hwn := Aside0.mk (show wrap64 ((beVal ((l.take (l.length - 4)).drop (l.length - 8)) : Nat) : Int) = _ from w64 (by omega) (by omega))
  rw [hwn.out] at hn4
  have hbe : bytes_Equal.f ((l.take (l.length - 4)).drop (l.length - 8)) (fixedB cr 4) = some (decide ((l.take (l.length - 4)).drop (l.length - 8) = fixedB cr 4)) := by unfold bytes_Equal.f; rw [strOfNums_eq _ _ hB4 (fixedB_bytes _ _)]
  have hi0 : bytes_Equal.f (l.drop (l.length - 4)) [84, 66, 76, 49] = some true := by unfold bytes_Equal.f; rw [hmk, hm]; simp
  by_cases hsum : (l.take (l.length - 4)).drop (l.length - 8) = fixedB cr 4
  case neg =>
    have hne : ¬ (cr : Int) = ((beVal ((l.take (l.length - 4)).drop (l.length - 8)) : Nat) : Int) := by
      intro e
      have e2 : cr = beVal ((l.take (l.length - 4)).drop (l.length - 8)) := by omega
      have := fixedB_beVal 4 _ hL4 hB4
      rw [← e2] at this
      exact hsum this.symm
    rw [decide_eq_false hsum] at hbe
    refine ⟨[], 3, Ev.bind (Ev_some hi0) ?_, Ev.bind hcs (Ev.bind hn4 ?_), by simp, .inr ⟨by decide, rfl⟩⟩
    · simp only [if_true]
      refine Ev.bind hci ?_
      simp only [hwc.out]
      refine Ev.bind hfx (Ev.bind (Ev_some hbe) ?_)
      simp only [Bool.false_eq_true, if_false]
      exact Ev.now _
    · simp only [hwc.out, if_neg hne]
      exact Ev.now _
  have heq : (cr : Int) = ((beVal ((l.take (l.length - 4)).drop (l.length - 8)) : Nat) : Int) := by rw [hsum, beVal_fixedB 4 cr (by omega)]
  rw [decide_eq_true hsum] at hbe
  -- how many entries
  have hB12 : Bytes ((l.take (l.length - 8)).drop (l.length - 12)) := (hb.take _).drop _
  have hL12 : ((l.take (l.length - 8)).drop (l.length - 12)).length = 4 := by rw [List.length_drop, List.length_take]; omega
  have hv12 := beVal_lt _ hB12
  rw [hL12] at hv12
  have hn12 := spec_l1Number_ev _ hB12 (by omega)
  have hwn2 := Aside0.mk (show wrap64 ((beVal ((l.take (l.length - 8)).drop (l.length - 12)) : Nat) : Int) = _ from w64 (by omega) (by omega))
  rw [hwn2.out] at hn12
  obtain ⟨many, hmany⟩ : ∃ many, many = beVal ((l.take (l.length - 8)).drop (l.length - 12)) := ⟨_, rfl⟩
  rw [← hmany] at hn12 hv12
  have hpl : ∃ x y, Ev (fun k => impl_places.f k l) (x, y, (many : Int)) := by
    have hw1 := Aside0.mk (show wrap64 ((l.length : Int) - 20) = (l.length : Int) - 20 from w64 (by omega) (by omega))
    have hw2 := Aside0.mk (show wrap64 ((l.length : Int) - 20 + 4) = (l.length : Int) - 20 + 4 from w64 (by omega) (by omega))
    have hw3 := Aside0.mk (show wrap64 ((l.length : Int) - 20 + 8) = (l.length : Int) - 20 + 8 from w64 (by omega) (by omega))
    have r1 := impl_ReadFixed_ev l hb (by omega) ((l.length : Int) - 20) 4 (by omega) (by omega)
    have r2 := impl_ReadFixed_ev l hb (by omega) ((l.length : Int) - 20 + 4) 4 (by omega) (by omega)
    have r3 := impl_ReadFixed_ev l hb (by omega) ((l.length : Int) - 20 + 8) 4 (by omega) (by omega)
    have e3 : readFixed l ((l.length : Int) - 20 + 8) 4 = ((many : Int), true) := by
      have hd : (l.drop ((l.length : Int) - 20 + 8).toNat).take (4 : Int).toNat = (l.take (l.length - 8)).drop (l.length - 12) := by
        rw [List.drop_take, show ((l.length : Int) - 20 + 8).toNat = l.length - 12 by omega, show l.length - 8 - (l.length - 12) = 4 by omega]
        rfl
      unfold readFixed
      rw [hd, ← hmany, if_pos ⟨by omega, by omega, by omega, by omega, by omega⟩]
    rw [e3] at r3
    refine ⟨(readFixed l ((l.length : Int) - 20) 4).1, (readFixed l ((l.length : Int) - 20 + 4) 4).1, ?_⟩
    unfold impl_places.f
    simp only [hw1.out, hw2.out, hw3.out]
    exact Ev.bind r1 (Ev.bind r2 (Ev.bind r3 (Ev.now _)))
  obtain ⟨x, y, hpl⟩ := hpl
  have gi : ∀ r, Ev (fun k => (impl_within.f (many : Int) 1 100).bind fun i => if i = true then (if 0 ≤ (many : Int) ∧ (many : Int) ≤ 100 then impl_readTable.g k l (many : Int).toNat else none) else some ([], 4)) r → Ev (fun k => (bytes_Equal.f (l.drop (l.length - 4)) [84, 66, 76, 49]).bind fun m => if m = true then (impl_Crc32c.f k (l.take (l.length - 8))).bind fun cr => (impl_fixed.f k (wrap64 cr)).bind fun fx => (bytes_Equal.f ((l.take (l.length - 4)).drop (l.length - 8)) fx).bind fun s => if s = true then (impl_places.f k l).bind fun p => (impl_within.f p.2.2 1 100).bind fun i => if i = true then (if 0 ≤ p.2.2 ∧ p.2.2 ≤ 100 then impl_readTable.g k l p.2.2.toNat else none) else some ([], 4) else some ([], 3) else some ([], 2)) r := by
    intro r hr
    refine Ev.bind (Ev_some hi0) ?_
    simp only [if_true]
    refine Ev.bind hci ?_
    simp only [hwc.out]
    refine Ev.bind hfx (Ev.bind (Ev_some hbe) ?_)
    simp only [if_true]
    exact Ev.bind hpl hr
  have gs : ∀ r, Ev (fun k => (spec_l1In.f (many : Int) 1 100).bind fun i => if i = true then spec_l7Read.g k l (many : Int) else some ([], 4)) r → Ev (fun k => (spec_l1Crc.f k (l.take (l.length - 8))).bind fun cr => (spec_l1Number.f k ((l.take (l.length - 4)).drop (l.length - 8))).bind fun nu => if wrap64 cr = nu then (spec_l1Number.f k ((l.take (l.length - 8)).drop (l.length - 12))).bind fun many => (spec_l1In.f many 1 100).bind fun i => if i = true then spec_l7Read.g k l many else some ([], 4) else some ([], 3)) r := by
    intro r hr
    refine Ev.bind hcs (Ev.bind hn4 ?_)
    simp only [hwc.out, if_pos heq]
    exact Ev.bind hn12 hr
  by_cases hin : 1 ≤ (many : Int) ∧ (many : Int) ≤ 100
  · obtain ⟨E, c, e1, e2, e3, e4⟩ := both_g l hb (by omega) many (by omega)
    refine ⟨E, c, gi _ ?_, gs _ ?_, e3, e4⟩
    · refine Ev.bind (Ev_some (within_eq _ _ _)) ?_
      simp only [decide_eq_true hin, if_true, if_pos (show 0 ≤ (many : Int) ∧ (many : Int) ≤ 100 by omega), Int.toNat_natCast]
      exact e1
    · refine Ev.bind (Ev_some (l1In_eq _ _ _)) ?_
      simp only [decide_eq_true hin, if_true]
      exact e2
  · refine ⟨[], 4, gi _ ?_, gs _ ?_, by simp, .inr ⟨by decide, rfl⟩⟩
    · refine Ev.bind (Ev_some (within_eq _ _ _)) ?_
      simp only [decide_eq_false hin, Bool.false_eq_true, if_false]
      exact Ev.now _
    · refine Ev.bind (Ev_some (l1In_eq _ _ _)) ?_
      simp only [decide_eq_false hin, Bool.false_eq_true, if_false]
      exact Ev.now _
theorem FnExactBoundsOf : laws_FnExactBoundsOf.Pure := by
  intro l h
  have hb : Bytes l := Bytes.wf h.2
  refine Ev.rounds ?_
  unfold laws_FnExactBoundsOf.f
  by_cases hl : 1048576 < (l.length : Int)
  · simp only [if_pos hl]; exact Ev.now _
  simp only [if_neg hl]
  obtain ⟨E, c, e1, e2, e3, e4⟩ := both_read l hb
  obtain ⟨r, h1, h2⟩ : ∃ r : ByteArray × ByteArray × Int, Ev (fun k => spec_BoundsOf.f k l) r ∧ Ev (fun k => impl_BoundsOf.f k l) r := by
    unfold spec_BoundsOf.f impl_BoundsOf.f
    rcases e4 with ⟨rfl, ht⟩ | ⟨hc, _⟩
    · refine ⟨((rd_T51 E 0).f0, (rd_T51 E ((E.length : Int) - 1)).f0, 0), Ev.bind e2 ?_, Ev.bind e1 ?_⟩ <;>
      · simp only [if_true, if_pos (show 1 ≤ E.length ∧ E.length ≤ 1000000 from ⟨ht.2.1, by omega⟩)]
        exact Ev.now _
    · refine ⟨(⟨#[]⟩, ⟨#[]⟩, c), Ev.bind e2 ?_, Ev.bind e1 ?_⟩ <;>
      · simp only [if_neg hc]
        exact Ev.now _
  refine Ev.bind (toByteS_ev l (by omega)) ?_
  refine Ev.bind h1 ?_
  refine Ev.bind (toByteS_ev l (by omega)) ?_
  refine Ev.bind h2 ?_
  refine Ev.bind (toByteS_ev l (by omega)) ?_
  refine Ev.bind (eqByteS_same _ _ (by omega) rfl) ?_
  simp only [and_self, if_true]
  exact Ev.now _
end Go.Proofs.Ytllmlnagihlokaa.Pure
