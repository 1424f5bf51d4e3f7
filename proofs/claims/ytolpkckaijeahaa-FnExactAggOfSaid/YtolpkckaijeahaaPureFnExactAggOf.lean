/- The law FnExactAggOf answers true, for all values. -/
import Derived.Test.YtolpkckaijeahaaPFnExactAggOfx3
set_option linter.unusedVariables false
set_option linter.unusedSimpArgs false
namespace Go.Proofs.Ytolpkckaijeahaa.Pure
open Go.RowKit Go.Proofs.Ytolpkckaijeahaa.PFnExactAggOf Go.Proofs.YtolpkckaijeahaaW Go.Proofs.YtolpkckaijeahaaW.PrintWords Go.Proofs.YtolpkckaijeahaaW.PrintLast Go.Proofs.YtolpkckaijeahaaW.PrintMore
/-! ### base: rounds, numbers -/
theorem Ev_succ {α : Type} {g : Nat → Option α} {r : α} (h : Ev (fun k => g (k + 1)) r) : Ev g r := Ev.step (fun _ => rfl) h
theorem Ev_some {α : Type} {o : Option α} {r : α} (h : o = some r) : Ev (fun _ => o) r := ⟨0, fun _ _ => h⟩
theorem Ev_cast {α : Type} {g : Nat → Option α} {r q : α} (h : Ev g r) (e : r = q) : Ev g q := e ▸ h
theorem w64 {n : Int} (h : -9223372036854775808 ≤ n) (h' : n ≤ 9223372036854775807) : wrap64 n = n := by unfold wrap64; omega
theorem wf_i64 {n : Int} (h : (Lit.int .i64 n).wf = true) : -9223372036854775808 ≤ n ∧ n ≤ 9223372036854775807 := by
  simp only [Lit.wf, IntKind.min, IntKind.max, IntKind.signed, IntKind.bits, Bool.and_eq_true, decide_eq_true_eq, if_true] at h
  omega
theorem wf_u64 {n : Int} (h : (Lit.int .u64 n).wf = true) : 0 ≤ n ∧ n ≤ 18446744073709551615 := by
  simp only [Lit.wf, IntKind.min, IntKind.max, IntKind.signed, IntKind.bits, Bool.and_eq_true, decide_eq_true_eq, if_true] at h
  simp at h
  omega
theorem wf_u8 {n : Int} (h : (Lit.int .u8 n).wf = true) : 0 ≤ n ∧ n ≤ 255 := by
  simp only [Lit.wf, IntKind.min, IntKind.max, IntKind.signed, IntKind.bits, Bool.and_eq_true, decide_eq_true_eq, if_true] at h
  simp at h
  omega
theorem wrap_u64 (n : Int) : IntKind.u64.wrap n = n % 18446744073709551616 := by simp [IntKind.wrap, IntKind.bits, IntKind.signed]
theorem wrap_u32 (n : Int) : IntKind.u32.wrap n = n % 4294967296 := by simp [IntKind.wrap, IntKind.bits, IntKind.signed]
/-- A list of bytes. -/
def Bytes (l : List Int) : Prop := ∀ x ∈ l, 0 ≤ x ∧ x ≤ 255
theorem Bytes.wf {l : List Int} (h : ∀ x ∈ l, (Lit.int .u8 x).wf = true) : Bytes l := fun x hx => wf_u8 (h x hx)
theorem Bytes.nil : Bytes [] := fun x hx => by cases hx
theorem Bytes.app {a b : List Int} (h : Bytes a) (k : Bytes b) : Bytes (a ++ b) := fun x hx => by
  rcases List.mem_append.1 hx with h' | h'
  · exact h x h'
  · exact k x h'
theorem Bytes.one {x : Int} (h : 0 ≤ x) (h' : x ≤ 255) : Bytes [x] := fun y hy => (List.mem_singleton.1 hy) ▸ ⟨h, h'⟩
theorem Bytes.sub {a b : List Int} (h : Bytes a) (k : ∀ x ∈ b, x ∈ a) : Bytes b := fun x hx => h x (k x hx)
theorem Bytes.take {a : List Int} (h : Bytes a) (n : Nat) : Bytes (a.take n) := h.sub fun _ hx => List.mem_of_mem_take hx
theorem Bytes.drop {a : List Int} (h : Bytes a) (n : Nat) : Bytes (a.drop n) := h.sub fun _ hx => List.mem_of_mem_drop hx
theorem rd_lt {l : List Int} {i : Nat} (h : i < l.length) : rd l (i : Int) = l[i] := by simp [rd, h]
theorem Bytes.rd {l : List Int} (h : Bytes l) (i : Int) : 0 ≤ rd l i ∧ rd l i ≤ 255 := by
  unfold PrintWords.rd
  by_cases hi : i.toNat < l.length
  · rw [List.getD_eq_getElem?_getD, List.getElem?_eq_getElem hi]; exact h _ (List.getElem_mem hi)
  · rw [List.getD_eq_getElem?_getD, List.getElem?_eq_none (by omega)]; simp
theorem drop_cons {α : Type} {l : List α} {i : Nat} (h : i < l.length) : l.drop i = l[i] :: l.drop (i + 1) := List.drop_eq_getElem_cons h
theorem within_eq (a b c : Int) : impl_within.f a b c = some (decide (b ≤ a ∧ a ≤ c)) := by
  unfold impl_within.f
  by_cases h : a ≥ b
  · rw [if_pos h]; simp; intro; omega
  · rw [if_neg h]; simp; intro; omega
theorem l1In_eq (a b c : Int) : spec_l1In.f a b c = some (decide (b ≤ a ∧ a ≤ c)) := by
  unfold spec_l1In.f
  by_cases h : a ≥ b
  · rw [if_pos h]; simp; intro; omega
  · rw [if_neg h]; simp; intro; omega
theorem l4Value_eq (v : Int) : spec_l4Value.f v = some (decide (-1000000000 ≤ v ∧ v ≤ 1000000000)) := by
  unfold spec_l4Value.f
  rw [l1In_eq]; rfl
theorem isValue_eq (v : Int) : impl_isValue.f v = some (decide (-1000000000 ≤ v ∧ v ≤ 1000000000)) := by
  unfold impl_isValue.f
  rw [within_eq]; rfl
/-! ### the laws' own words on bytes -/
theorem eqIntS_l0 (a b : List Int) (hl : a.length = b.length) (hb : a.length ≤ 4611686018427387904) :
    ∀ (d i : Nat), a.length - i = d → i ≤ a.length → Ev (fun k => laws_eqIntS.l0 k a b (i : Int)) (decide (a.drop i = b.drop i)) := by
  intro d
  induction d with
  | zero =>
    intro i hd hi
    refine Ev_succ ?_
    simp only [laws_eqIntS.l0]
    simp only [if_neg (show ¬ (i : Int) < (a.length : Int) by omega)]
    exact Ev_cast (Ev.now _) (by rw [List.drop_eq_nil_of_le (by omega), List.drop_eq_nil_of_le (by omega)]; simp)
  | succ d ih =>
    intro i hd hi
    refine Ev_succ ?_
    simp only [laws_eqIntS.l0]
    simp only [if_pos (show (i : Int) < (a.length : Int) by omega), if_pos (show 0 ≤ (i : Int) by omega), if_pos (show (i : Int) < (b.length : Int) by omega)]
    rw [rd_lt (by omega), rd_lt (by omega), w64 (by omega) (by omega), drop_cons (l := a) (by omega), drop_cons (l := b) (i := i) (by omega)]
    by_cases e : a[i]'(by omega) = b[i]'(by omega)
    · simp only [if_pos e]
      exact Ev_cast (ih (i + 1) (by omega) (by omega)) (decide_eq_decide.2 (by rw [List.cons.injEq]; exact ⟨fun h => ⟨e, h⟩, fun h => h.2⟩))
    · simp only [if_neg e]
      exact Ev_cast (Ev.now _) (Eq.symm (decide_eq_false (by rw [List.cons.injEq]; exact fun h => e h.1)))
theorem eqIntS_ev (a b : List Int) (ha : a.length ≤ 4611686018427387904) : Ev (fun k => laws_eqIntS.f k a b) (decide (a = b)) := by
  unfold laws_eqIntS.f
  by_cases h : a.length = b.length
  · simp only [if_pos (show (a.length : Int) = (b.length : Int) by omega)]
    exact eqIntS_l0 a b h ha a.length 0 (by omega) (by omega)
  · simp only [if_neg (show ¬ (a.length : Int) = (b.length : Int) by omega)]
    exact Ev_cast (Ev.now _) (by simp; intro e; exact h (by rw [e]))
theorem eqIntS_same (a b : List Int) (ha : a.length ≤ 4611686018427387904) (e : a = b) : Ev (fun k => laws_eqIntS.f k a b) true := Ev_cast (eqIntS_ev a b ha) (by simp [e])
/-- What a list of whole numbers reads once it was marked from m on. -/
def imarkedFrom (m : Int) : Nat → List Int
  | 0 => []
  | n + 1 => m :: imarkedFrom (m + 1) n
theorem imarkedFrom_length (n : Nat) : ∀ m, (imarkedFrom m n).length = n := by
  induction n with
  | zero => intro m; rfl
  | succ n ih => intro m; simp [imarkedFrom, ih]
theorem markIntS_l0 (m : Int) : ∀ (d i : Nat) (l : List Int), l.length - i = d → i ≤ l.length → l.length ≤ 1152921504606846976 → 0 ≤ m → m ≤ 1152921504606846976 + i →
    Ev (fun k => laws_markIntS.l0 k l m (i : Int)) (m + d, l.take i ++ imarkedFrom m d) := by
  intro d
  induction d generalizing m with
  | zero =>
    intro i l hd hi hl h0 hm
    refine Ev_succ ?_
    simp only [laws_markIntS.l0]
    simp only [if_neg (show ¬ (i : Int) < (l.length : Int) by omega)]
    exact Ev_cast (Ev.now _) (by rw [List.take_of_length_le (by omega)]; simp [imarkedFrom])
  | succ d ih =>
    intro i l hd hi hl h0 hm
    refine Ev_succ ?_
    simp only [laws_markIntS.l0]
    simp only [if_pos (show (i : Int) < (l.length : Int) by omega), if_pos (show 0 ≤ (i : Int) by omega)]
    rw [w64 (n := m + 1) (by omega) (by omega), w64 (by omega) (by omega)]
    refine Ev_cast (ih (m + 1) (i + 1) (l.set i (m)) (by simp; omega) (by simp; omega) (by simpa using hl) (by omega) (by omega)) ?_
    refine Prod.ext (by simp; omega) ?_
    show (l.set i (m)).take (i + 1) ++ imarkedFrom (m + 1) d = l.take i ++ imarkedFrom m (d + 1)
    have : (l.set i (m)).take (i + 1) = l.take i ++ [m] := by
      apply List.ext_getElem?
      intro j
      rw [List.getElem?_take, List.getElem?_append, List.getElem?_set]
      have : (l.take i).length = i := by simp; omega
      rw [this]
      by_cases h1 : j < i
      · rw [if_pos (by omega), if_neg (by omega), if_pos h1, List.getElem?_take, if_pos h1]
      · by_cases h2 : j = i
        · subst h2; simp; omega
        · rw [if_neg (by omega), if_neg h1]; simp; omega
    rw [this]; simp [imarkedFrom]
theorem markIntS_ev (l : List Int) (m : Int) (hl : l.length ≤ 1152921504606846976) (h0 : 0 ≤ m) (hm : m ≤ 1152921504606846976) : Ev (fun k => laws_markIntS.f k l m) (m + l.length, imarkedFrom m l.length) := by
  unfold laws_markIntS.f
  exact Ev_cast (markIntS_l0 m l.length 0 l (by omega) (by omega) hl h0 (by omega)) (by simp)
theorem heldIntS_l0 : ∀ (n : Nat) (m : Int) (i : Nat) (p : List Int), p.length = i → i + n ≤ 1152921504606846976 → 0 ≤ m → m ≤ 1152921504606846976 + i →
    Ev (fun k => laws_heldIntS.l0 k (p ++ imarkedFrom m n) m (i : Int)) (m + n) := by
  intro n
  induction n with
  | zero =>
    intro m i p hp hl h0 hm
    refine Ev_succ ?_
    simp only [laws_heldIntS.l0]
    simp only [imarkedFrom, List.append_nil, if_neg (show ¬ (i : Int) < (p.length : Int) by omega)]
    exact Ev_cast (Ev.now _) (by simp)
  | succ n ih =>
    intro m i p hp hl h0 hm
    refine Ev_succ ?_
    simp only [laws_heldIntS.l0]
    have hlen : (p ++ imarkedFrom m (n + 1)).length = i + n + 1 := by rw [List.length_append, imarkedFrom_length]; omega
    have hr : rd (p ++ imarkedFrom m (n + 1)) (i : Int) = m := by
      rw [rd_lt (by omega)]; simp [imarkedFrom, hp]
    simp only [if_pos (show (i : Int) < ((p ++ imarkedFrom m (n + 1)).length : Int) by omega), if_pos (show 0 ≤ (i : Int) by omega), hr, if_true]
    rw [w64 (n := m + 1) (by omega) (by omega), w64 (by omega) (by omega)]
    have e : p ++ imarkedFrom m (n + 1) = (p ++ [m]) ++ imarkedFrom (m + 1) n := by simp [imarkedFrom]
    rw [e]
    exact Ev_cast (ih (m + 1) (i + 1) (p ++ [m]) (by simp [hp]) (by omega) (by omega) (by omega)) (by omega)
theorem heldIntS_ev (m : Int) (n : Nat) (hl : n ≤ 1152921504606846976) (h0 : 0 ≤ m) (hm : m ≤ 1152921504606846976) : Ev (fun k => laws_heldIntS.f k (imarkedFrom m n) m) (m + n) := by
  unfold laws_heldIntS.f
  exact heldIntS_l0 n m 0 [] rfl (by omega) h0 (by omega)
theorem eqAgg_same (c s mn mx : Int) (h : List Int) (f : Bool) (hl : h.length ≤ 1048576) : Ev (fun k => laws_eqAgg.f k c s mn mx h f c s mn mx h f) true := by
  unfold laws_eqAgg.f
  simp only [if_true, bne_self_eq_false, Bool.false_eq_true, if_false]
  exact Ev.bind (eqIntS_same h h (by omega) rfl) (Ev_cast (by simp only [if_true]; exact Ev.now _) rfl)
theorem markAgg_ev (c s mn mx : Int) (h : List Int) (f : Bool) (hl : h.length ≤ 1048576) : Ev (fun k => laws_markAgg.f k c s mn mx h f 1) (1 + (h.length : Int), imarkedFrom 1 h.length) := by
  unfold laws_markAgg.f
  exact Ev.bind (markIntS_ev h 1 (by omega) (by omega) (by omega)) (Ev.now _)
theorem heldAgg_ev (c s mn mx : Int) (n : Nat) (f : Bool) (hl : n ≤ 1048576) : Ev (fun k => laws_heldAgg.f k c s mn mx (imarkedFrom 1 n) f 1) (1 + (n : Int)) := by
  unfold laws_heldAgg.f
  refine Ev.bind (heldIntS_ev 1 n (by omega) (by omega) (by omega)) ?_
  simp only [if_neg (show ¬ (1 + (n : Int) < 0) by omega)]
  exact Ev.now _
/-! ### BucketOf -/
def bucket (v : Int) : Int := if v < 0 then 0 else if v < 1 then 1 else if v < 10 then 2 else if v < 100 then 3 else if v < 1000 then 4 else if v < 10000 then 5 else if v < 100000 then 6 else 7
theorem spec_l4Bucket_ev (v : Int) : Ev (fun k => spec_l4Bucket.f k v) (bucket v) := by
  unfold spec_l4Bucket.f
  by_cases h0 : v < 0
  · simp only [if_pos h0, bucket]; exact Ev.now _
  simp only [if_neg h0]
  have st : ∀ (b t : Int), 1 ≤ b → b < 7 → 1 ≤ t → t ≤ 100000 → t ≤ v → ∀ r, Ev (fun k => spec_l4Bucket.l0 k v (b + 1) (t * 10)) r → Ev (fun k => spec_l4Bucket.l0 k v b t) r := by
    intro b t h1 h2 h3 h4 h5 r hr
    refine Ev_succ ?_
    simp only [spec_l4Bucket.l0, if_pos h2, if_pos (show v ≥ t by omega)]
    rw [w64 (by omega) (by omega), w64 (by omega) (by omega)]
    exact hr
  have fin : ∀ (b t : Int), (b = 7 ∨ v < t) → ∀ r, b = r → Ev (fun k => spec_l4Bucket.l0 k v b t) r := by
    rintro b t h r rfl
    refine Ev_succ ?_
    by_cases h2 : b < 7
    · simp only [spec_l4Bucket.l0, if_pos h2, if_neg (show ¬ v ≥ t by omega)]; exact Ev.now _
    · simp only [spec_l4Bucket.l0, if_neg h2]; exact Ev.now _
  unfold bucket
  rw [if_neg h0]
  by_cases h1 : v < 1
  · rw [if_pos h1]; exact fin _ _ (.inr h1) _ rfl
  rw [if_neg h1]; refine st _ _ (by omega) (by omega) (by omega) (by omega) (by omega) _ ?_
  by_cases h2 : v < 10
  · rw [if_pos h2]; exact fin _ _ (.inr (by omega)) _ rfl
  rw [if_neg h2]; refine st _ _ (by omega) (by omega) (by omega) (by omega) (by omega) _ ?_
  by_cases h3 : v < 100
  · rw [if_pos h3]; exact fin _ _ (.inr (by omega)) _ rfl
  rw [if_neg h3]; refine st _ _ (by omega) (by omega) (by omega) (by omega) (by omega) _ ?_
  by_cases h4 : v < 1000
  · rw [if_pos h4]; exact fin _ _ (.inr (by omega)) _ rfl
  rw [if_neg h4]; refine st _ _ (by omega) (by omega) (by omega) (by omega) (by omega) _ ?_
  by_cases h5 : v < 10000
  · rw [if_pos h5]; exact fin _ _ (.inr (by omega)) _ rfl
  rw [if_neg h5]; refine st _ _ (by omega) (by omega) (by omega) (by omega) (by omega) _ ?_
  by_cases h6 : v < 100000
  · rw [if_pos h6]; exact fin _ _ (.inr (by omega)) _ rfl
  rw [if_neg h6]; refine st _ _ (by omega) (by omega) (by omega) (by omega) (by omega) _ ?_
  exact fin _ _ (.inl rfl) _ rfl
theorem impl_BucketOf_ev (v : Int) : Ev (fun k => impl_BucketOf.f k v) (if -1000000000 ≤ v ∧ v ≤ 1000000000 then bucket v else -1) := by
  unfold impl_BucketOf.f
  by_cases c : -1000000000 ≤ v ∧ v ≤ 1000000000
  · refine Ev.bind (Ev_some (isValue_eq v)) ?_
    simp only [c, and_self, decide_true, if_true]
    by_cases h0 : v < 0
    · simp only [if_pos h0, bucket]; exact Ev.now _
    simp only [if_neg h0]
    by_cases h00 : v = 0
    · subst h00; exact Ev.now _
    simp only [if_neg h00]
    have st : ∀ (b t : Int), 1 ≤ b → b < 7 → 1 ≤ t → t ≤ 100000 → t ≤ v → ∀ r, Ev (fun k => impl_BucketOf.l0 k v (b + 1) (t * 10)) r → Ev (fun k => impl_BucketOf.l0 k v b t) r := by
      intro b t h1 h2 h3 h4 h5 r hr
      refine Ev_succ ?_
      simp only [impl_BucketOf.l0, if_pos h2, if_pos (show v ≥ t by omega)]
      rw [w64 (by omega) (by omega), w64 (by omega) (by omega)]
      exact hr
    have fin : ∀ (b t : Int), (b = 7 ∨ v < t) → ∀ r, b = r → Ev (fun k => impl_BucketOf.l0 k v b t) r := by
      rintro b t h r rfl
      refine Ev_succ ?_
      by_cases h3 : v ≥ t
      · simp only [impl_BucketOf.l0, if_pos h3, if_neg (show ¬ b < 7 by omega)]; exact Ev.now _
      · simp only [impl_BucketOf.l0, if_neg h3]; exact Ev.now _
    unfold bucket
    rw [if_neg h0, if_neg (show ¬ v < 1 by omega)]
    by_cases h2 : v < 10
    · rw [if_pos h2]; exact fin _ _ (.inr (by omega)) _ rfl
    rw [if_neg h2]; refine st _ _ (by omega) (by omega) (by omega) (by omega) (by omega) _ ?_
    by_cases h3 : v < 100
    · rw [if_pos h3]; exact fin _ _ (.inr (by omega)) _ rfl
    rw [if_neg h3]; refine st _ _ (by omega) (by omega) (by omega) (by omega) (by omega) _ ?_
    by_cases h4 : v < 1000
    · rw [if_pos h4]; exact fin _ _ (.inr (by omega)) _ rfl
    rw [if_neg h4]; refine st _ _ (by omega) (by omega) (by omega) (by omega) (by omega) _ ?_
    by_cases h5 : v < 10000
    · rw [if_pos h5]; exact fin _ _ (.inr (by omega)) _ rfl
    rw [if_neg h5]; refine st _ _ (by omega) (by omega) (by omega) (by omega) (by omega) _ ?_
    by_cases h6 : v < 100000
    · rw [if_pos h6]; exact fin _ _ (.inr (by omega)) _ rfl
    rw [if_neg h6]; refine st _ _ (by omega) (by omega) (by omega) (by omega) (by omega) _ ?_
    exact fin _ _ (.inl rfl) _ rfl
  · refine Ev.bind (Ev_some (isValue_eq v)) ?_
    simp only [c, decide_false, if_false]
    exact Ev.now _
theorem bucket_range (v : Int) : 0 ≤ bucket v ∧ bucket v ≤ 7 := by
  unfold bucket
  repeat' split
  all_goals omega
def aggOf (v : Int) : Int × Int × Int × Int × List Int × Bool × Bool := if -1000000000 ≤ v ∧ v ≤ 1000000000 then (1, v, v, v, (List.replicate 8 0).set (bucket v).toNat 1, false, true) else (0, 0, 0, 0, [], false, false)
theorem aggOf_length (v : Int) : (aggOf v).2.2.2.2.1.length ≤ 8 := by
  unfold aggOf
  split
  · rw [List.length_set, List.length_replicate]; omega
  · simp
theorem spec_AggOf_ev (v : Int) : Ev (fun k => spec_AggOf.f k v) (aggOf v) := by
  unfold spec_AggOf.f aggOf
  refine Ev.bind (Ev_some (l4Value_eq v)) ?_
  by_cases h : -1000000000 ≤ v ∧ v ≤ 1000000000
  · rw [decide_eq_true h, if_pos h]
    simp only [if_true]
    refine Ev.bind (a := (1, v, v, v, (List.replicate 8 0).set (bucket v).toNat 1, false)) ?_ (Ev.now _)
    unfold spec_l4Of.f
    simp only [if_pos (show 8 ≤ 35184372088832 by omega), Option.bind_some]
    refine Ev.bind (spec_l4Bucket_ev v) ?_
    have hb := bucket_range v
    simp only [if_pos hb.1, if_pos (show bucket v < ((List.replicate 8 (0 : Int)).length : Int) by rw [List.length_replicate]; omega)]
    exact Ev.now _
  · rw [decide_eq_false h, if_neg h]
    simp only [Bool.false_eq_true, if_false]
    exact Ev.now _
theorem impl_AggOf_ev (v : Int) : Ev (fun k => impl_AggOf.f k v) (aggOf v) := by
  unfold impl_AggOf.f aggOf
  refine Ev.bind (Ev_some (isValue_eq v)) ?_
  by_cases h : -1000000000 ≤ v ∧ v ≤ 1000000000
  · rw [decide_eq_true h, if_pos h]
    simp only [if_true]
    refine Ev.bind (a := (0, 0, 0, 0, List.replicate 8 0, false)) (Ev_some (by unfold impl_noAgg.f; rw [if_pos (by omega)])) ?_
    refine Ev.bind (impl_BucketOf_ev v) ?_
    rw [if_pos h]
    have hb := bucket_range v
    simp only [if_pos hb.1, if_pos (show bucket v < ((List.replicate 8 (0 : Int)).length : Int) by rw [List.length_replicate]; omega)]
    exact Ev.now _
  · rw [decide_eq_false h, if_neg h]
    simp only [Bool.false_eq_true, if_false]
    exact Ev.now _
theorem FnExactAggOf : laws_FnExactAggOf.Pure := by
  intro v hv
  refine Ev.rounds ?_
  have hl := aggOf_length v
  unfold laws_FnExactAggOf.f
  refine Ev.bind (spec_AggOf_ev v) ?_
  refine Ev.bind (impl_AggOf_ev v) ?_
  refine Ev.bind (eqAgg_same _ _ _ _ _ _ (by omega)) ?_
  simp only [if_true, bne_self_eq_false]
  refine Ev_succ ?_
  simp only [laws_FnExactAggOf.j0, Bool.false_eq_true, if_false]
  refine Ev.bind (markAgg_ev _ _ _ _ _ _ (by omega)) ?_
  refine Ev.bind (heldAgg_ev _ _ _ _ _ _ (by omega)) ?_
  simp only [if_neg (show ¬ (1 + ((aggOf v).2.2.2.2.1.length : Int) < 0) by omega), if_true]
  refine Ev.bind (impl_AggOf_ev v) ?_
  refine Ev.bind (eqAgg_same _ _ _ _ _ _ (by omega)) ?_
  simp only [if_true, bne_self_eq_false]
  refine Ev_succ ?_
  simp only [laws_FnExactAggOf.j1, Bool.false_eq_true, if_false]
  refine Ev.bind (heldAgg_ev _ _ _ _ _ _ (by omega)) ?_
  simp only [if_neg (show ¬ (1 + ((aggOf v).2.2.2.2.1.length : Int) < 0) by omega), if_true]
  exact Ev.now _
end Go.Proofs.Ytolpkckaijeahaa.Pure
