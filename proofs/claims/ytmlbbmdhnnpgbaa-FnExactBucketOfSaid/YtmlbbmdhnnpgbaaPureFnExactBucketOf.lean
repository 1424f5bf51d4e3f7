/- The law FnExactBucketOf answers true, for all values. -/
import Derived.Test.YtmlbbmdhnnpgbaaPFnExactBucketOfx1
set_option linter.unusedVariables false
set_option linter.unusedSimpArgs false
namespace Go.Proofs.Ytmlbbmdhnnpgbaa.Pure
open Go.RowKit Go.Proofs.Ytmlbbmdhnnpgbaa.PFnExactBucketOf Go.Proofs.YtmlbbmdhnnpgbaaW Go.Proofs.YtmlbbmdhnnpgbaaW.PrintWords Go.Proofs.YtmlbbmdhnnpgbaaW.PrintLast Go.Proofs.YtmlbbmdhnnpgbaaW.PrintMore
/-! ### base: rounds, numbers -/
theorem Ev_succ {α : Type} {g : Nat → Option α} {r : α} (h : Ev (fun k => g (k + 1)) r) : Ev g r := Ev.step (fun _ => rfl) h
theorem Ev_some {α : Type} {o : Option α} {r : α} (h : o = some r) : Ev (fun _ => o) r := ⟨0, fun _ _ => h⟩
theorem Ev_cast {α : Type} {g : Nat → Option α} {r q : α} (h : Ev g r) (e : r = q) : Ev g q := e ▸ h
theorem w64 {n : Int} (h : -9223372036854775808 ≤ n) (h' : n ≤ 9223372036854775807) : wrap64 n = n := by unfold wrap64; omega
theorem wf_i64 {n : Int} (h : (Lit.int .i64 n).wf = true) : -9223372036854775808 ≤ n ∧ n ≤ 9223372036854775807 := by
  simp only [Lit.wf, IntKind.min, IntKind.max, IntKind.signed, IntKind.bits, Bool.and_eq_true, decide_eq_true_eq, if_true] at h
  omega
theorem wf_u64 {n : Int} (h : (Lit.int .u64 n).wf = true) : 0 ≤ n ∧ n ≤ 18446744073709551615 := by
  simp only [Lit.wf, IntKind.min, IntKind.max, IntKind.signed, IntKind.bits, Bool.and_eq_true, decide_eq_true_eq, if_true] at h
  simp at h
  omega
theorem wf_u8 {n : Int} (h : (Lit.int .u8 n).wf = true) : 0 ≤ n ∧ n ≤ 255 := by
  simp only [Lit.wf, IntKind.min, IntKind.max, IntKind.signed, IntKind.bits, Bool.and_eq_true, decide_eq_true_eq, if_true] at h
  simp at h
  omega
theorem wrap_u64 (n : Int) : IntKind.u64.wrap n = n % 18446744073709551616 := by simp [IntKind.wrap, IntKind.bits, IntKind.signed]
theorem wrap_u32 (n : Int) : IntKind.u32.wrap n = n % 4294967296 := by simp [IntKind.wrap, IntKind.bits, IntKind.signed]
/-- A list of bytes. -/
def Bytes (l : List Int) : Prop := ∀ x ∈ l, 0 ≤ x ∧ x ≤ 255
theorem Bytes.wf {l : List Int} (h : ∀ x ∈ l, (Lit.int .u8 x).wf = true) : Bytes l := fun x hx => wf_u8 (h x hx)
theorem Bytes.nil : Bytes [] := fun x hx => by cases hx
theorem Bytes.app {a b : List Int} (h : Bytes a) (k : Bytes b) : Bytes (a ++ b) := fun x hx => by
  rcases List.mem_append.1 hx with h' | h'
  · exact h x h'
  · exact k x h'
theorem Bytes.one {x : Int} (h : 0 ≤ x) (h' : x ≤ 255) : Bytes [x] := fun y hy => (List.mem_singleton.1 hy) ▸ ⟨h, h'⟩
theorem Bytes.sub {a b : List Int} (h : Bytes a) (k : ∀ x ∈ b, x ∈ a) : Bytes b := fun x hx => h x (k x hx)
theorem Bytes.take {a : List Int} (h : Bytes a) (n : Nat) : Bytes (a.take n) := h.sub fun _ hx => List.mem_of_mem_take hx
theorem Bytes.drop {a : List Int} (h : Bytes a) (n : Nat) : Bytes (a.drop n) := h.sub fun _ hx => List.mem_of_mem_drop hx
theorem rd_lt {l : List Int} {i : Nat} (h : i < l.length) : rd l (i : Int) = l[i] := by simp [rd, h]
theorem Bytes.rd {l : List Int} (h : Bytes l) (i : Int) : 0 ≤ rd l i ∧ rd l i ≤ 255 := by
  unfold PrintWords.rd
  by_cases hi : i.toNat < l.length
  · rw [List.getD_eq_getElem?_getD, List.getElem?_eq_getElem hi]; exact h _ (List.getElem_mem hi)
  · rw [List.getD_eq_getElem?_getD, List.getElem?_eq_none (by omega)]; simp
theorem drop_cons {α : Type} {l : List α} {i : Nat} (h : i < l.length) : l.drop i = l[i] :: l.drop (i + 1) := List.drop_eq_getElem_cons h
/-! ### BucketOf -/
def bucket (v : Int) : Int := if v < 0 then 0 else if v < 1 then 1 else if v < 10 then 2 else if v < 100 then 3 else if v < 1000 then 4 else if v < 10000 then 5 else if v < 100000 then 6 else 7
theorem spec_l4Bucket_ev (v : Int) : Ev (fun k => spec_l4Bucket.f k v) (bucket v) := by
  unfold spec_l4Bucket.f
  by_cases h0 : v < 0
  · simp only [if_pos h0, bucket]; exact Ev.now _
  simp only [if_neg h0]
  have st : ∀ (b t : Int), 1 ≤ b → b < 7 → 1 ≤ t → t ≤ 100000 → t ≤ v → ∀ r, Ev (fun k => spec_l4Bucket.l0 k v (b + 1) (t * 10)) r → Ev (fun k => spec_l4Bucket.l0 k v b t) r := by
    intro b t h1 h2 h3 h4 h5 r hr
    refine Ev_succ ?_
    simp only [spec_l4Bucket.l0, if_pos h2, if_pos (show v ≥ t by omega)]
    rw [w64 (by omega) (by omega), w64 (by omega) (by omega)]
    exact hr
  have fin : ∀ (b t : Int), (b = 7 ∨ v < t) → ∀ r, b = r → Ev (fun k => spec_l4Bucket.l0 k v b t) r := by
    rintro b t h r rfl
    refine Ev_succ ?_
    by_cases h2 : b < 7
    · simp only [spec_l4Bucket.l0, if_pos h2, if_neg (show ¬ v ≥ t by omega)]; exact Ev.now _
    · simp only [spec_l4Bucket.l0, if_neg h2]; exact Ev.now _
  unfold bucket
  rw [if_neg h0]
  by_cases h1 : v < 1
  · rw [if_pos h1]; exact fin _ _ (.inr h1) _ rfl
  rw [if_neg h1]; refine st _ _ (by omega) (by omega) (by omega) (by omega) (by omega) _ ?_
  by_cases h2 : v < 10
  · rw [if_pos h2]; exact fin _ _ (.inr (by omega)) _ rfl
  rw [if_neg h2]; refine st _ _ (by omega) (by omega) (by omega) (by omega) (by omega) _ ?_
  by_cases h3 : v < 100
  · rw [if_pos h3]; exact fin _ _ (.inr (by omega)) _ rfl
  rw [if_neg h3]; refine st _ _ (by omega) (by omega) (by omega) (by omega) (by omega) _ ?_
  by_cases h4 : v < 1000
  · rw [if_pos h4]; exact fin _ _ (.inr (by omega)) _ rfl
  rw [if_neg h4]; refine st _ _ (by omega) (by omega) (by omega) (by omega) (by omega) _ ?_
  by_cases h5 : v < 10000
  · rw [if_pos h5]; exact fin _ _ (.inr (by omega)) _ rfl
  rw [if_neg h5]; refine st _ _ (by omega) (by omega) (by omega) (by omega) (by omega) _ ?_
  by_cases h6 : v < 100000
  · rw [if_pos h6]; exact fin _ _ (.inr (by omega)) _ rfl
  rw [if_neg h6]; refine st _ _ (by omega) (by omega) (by omega) (by omega) (by omega) _ ?_
  exact fin _ _ (.inl rfl) _ rfl
theorem isValue_eq (v : Int) : impl_isValue.f v = some (decide (-1000000000 ≤ v ∧ v ≤ 1000000000)) := by
  unfold impl_isValue.f impl_within.f
  by_cases c : v ≥ -1000000000
  · simp [c]
  · simp [c]
theorem l4Value_eq (v : Int) : spec_l4Value.f v = some (decide (-1000000000 ≤ v ∧ v ≤ 1000000000)) := by
  unfold spec_l4Value.f spec_l1In.f
  by_cases c : v ≥ -1000000000
  · simp [c]
  · simp [c]
theorem impl_BucketOf_ev (v : Int) : Ev (fun k => impl_BucketOf.f k v) (if -1000000000 ≤ v ∧ v ≤ 1000000000 then bucket v else -1) := by
  unfold impl_BucketOf.f
  by_cases c : -1000000000 ≤ v ∧ v ≤ 1000000000
  · refine Ev.bind (Ev_some (isValue_eq v)) ?_
    simp only [c, and_self, decide_true, if_true]
    by_cases h0 : v < 0
    · simp only [if_pos h0, bucket]; exact Ev.now _
    simp only [if_neg h0]
    by_cases h00 : v = 0
    · subst h00; exact Ev.now _
    simp only [if_neg h00]
    have st : ∀ (b t : Int), 1 ≤ b → b < 7 → 1 ≤ t → t ≤ 100000 → t ≤ v → ∀ r, Ev (fun k => impl_BucketOf.l0 k v (b + 1) (t * 10)) r → Ev (fun k => impl_BucketOf.l0 k v b t) r := by
      intro b t h1 h2 h3 h4 h5 r hr
      refine Ev_succ ?_
      simp only [impl_BucketOf.l0, if_pos h2, if_pos (show v ≥ t by omega)]
      rw [w64 (by omega) (by omega), w64 (by omega) (by omega)]
      exact hr
    have fin : ∀ (b t : Int), (b = 7 ∨ v < t) → ∀ r, b = r → Ev (fun k => impl_BucketOf.l0 k v b t) r := by
      rintro b t h r rfl
      refine Ev_succ ?_
      by_cases h3 : v ≥ t
      · simp only [impl_BucketOf.l0, if_pos h3, if_neg (show ¬ b < 7 by omega)]; exact Ev.now _
      · simp only [impl_BucketOf.l0, if_neg h3]; exact Ev.now _
    unfold bucket
    rw [if_neg h0, if_neg (show ¬ v < 1 by omega)]
    by_cases h2 : v < 10
    · rw [if_pos h2]; exact fin _ _ (.inr (by omega)) _ rfl
    rw [if_neg h2]; refine st _ _ (by omega) (by omega) (by omega) (by omega) (by omega) _ ?_
    by_cases h3 : v < 100
    · rw [if_pos h3]; exact fin _ _ (.inr (by omega)) _ rfl
    rw [if_neg h3]; refine st _ _ (by omega) (by omega) (by omega) (by omega) (by omega) _ ?_
    by_cases h4 : v < 1000
    · rw [if_pos h4]; exact fin _ _ (.inr (by omega)) _ rfl
    rw [if_neg h4]; refine st _ _ (by omega) (by omega) (by omega) (by omega) (by omega) _ ?_
    by_cases h5 : v < 10000
    · rw [if_pos h5]; exact fin _ _ (.inr (by omega)) _ rfl
    rw [if_neg h5]; refine st _ _ (by omega) (by omega) (by omega) (by omega) (by omega) _ ?_
    by_cases h6 : v < 100000
    · rw [if_pos h6]; exact fin _ _ (.inr (by omega)) _ rfl
    rw [if_neg h6]; refine st _ _ (by omega) (by omega) (by omega) (by omega) (by omega) _ ?_
    exact fin _ _ (.inl rfl) _ rfl
  · refine Ev.bind (Ev_some (isValue_eq v)) ?_
    simp only [c, decide_false, if_false]
    exact Ev.now _
theorem FnExactBucketOf : laws_FnExactBucketOf.Pure := by
  intro a0 h0
  refine Ev.rounds ?_
  unfold laws_FnExactBucketOf.f spec_BucketOf.f
  refine Ev.bind (a := if -1000000000 ≤ a0 ∧ a0 ≤ 1000000000 then bucket a0 else -1) ?_ ?_
  · refine Ev.bind (Ev_some (l4Value_eq a0)) ?_
    by_cases c : -1000000000 ≤ a0 ∧ a0 ≤ 1000000000
    · simp only [c, and_self, decide_true, if_true]
      exact Ev.bind (spec_l4Bucket_ev a0) (Ev.now _)
    · simp only [c, decide_false, if_false]
      exact Ev.now _
  · refine Ev.bind (impl_BucketOf_ev a0) ?_
    simp only [if_true]
    exact Ev.now _
end Go.Proofs.Ytmlbbmdhnnpgbaa.Pure
