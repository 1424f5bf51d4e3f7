/- The law FnExactHashOf answers true, for all texts and seeds. -/
import Derived.Test.YtmlbbmdhnnpgbaaPFnExactHashOfx1
set_option linter.unusedVariables false
set_option linter.unusedSimpArgs false
namespace Go.Proofs.Ytmlbbmdhnnpgbaa.Pure
open Go.RowKit Go.Proofs.Ytmlbbmdhnnpgbaa.PFnExactHashOf Go.Proofs.YtmlbbmdhnnpgbaaW Go.Proofs.YtmlbbmdhnnpgbaaW.PrintWords Go.Proofs.YtmlbbmdhnnpgbaaW.PrintLast Go.Proofs.YtmlbbmdhnnpgbaaW.PrintMore
/-! ### base: rounds, numbers -/
theorem Ev_succ {α : Type} {g : Nat → Option α} {r : α} (h : Ev (fun k => g (k + 1)) r) : Ev g r := Ev.step (fun _ => rfl) h
theorem Ev_some {α : Type} {o : Option α} {r : α} (h : o = some r) : Ev (fun _ => o) r := ⟨0, fun _ _ => h⟩
theorem Ev_cast {α : Type} {g : Nat → Option α} {r q : α} (h : Ev g r) (e : r = q) : Ev g q := e ▸ h
theorem w64 {n : Int} (h : -9223372036854775808 ≤ n) (h' : n ≤ 9223372036854775807) : wrap64 n = n := by unfold wrap64; omega
theorem wf_i64 {n : Int} (h : (Lit.int .i64 n).wf = true) : -9223372036854775808 ≤ n ∧ n ≤ 9223372036854775807 := by
  simp only [Lit.wf, IntKind.min, IntKind.max, IntKind.signed, IntKind.bits, Bool.and_eq_true, decide_eq_true_eq, if_true] at h
  omega
theorem wf_u64 {n : Int} (h : (Lit.int .u64 n).wf = true) : 0 ≤ n ∧ n ≤ 18446744073709551615 := by
  simp only [Lit.wf, IntKind.min, IntKind.max, IntKind.signed, IntKind.bits, Bool.and_eq_true, decide_eq_true_eq, if_true] at h
  simp at h
  omega
theorem wf_u8 {n : Int} (h : (Lit.int .u8 n).wf = true) : 0 ≤ n ∧ n ≤ 255 := by
  simp only [Lit.wf, IntKind.min, IntKind.max, IntKind.signed, IntKind.bits, Bool.and_eq_true, decide_eq_true_eq, if_true] at h
  simp at h
  omega
theorem wrap_u64 (n : Int) : IntKind.u64.wrap n = n % 18446744073709551616 := by simp [IntKind.wrap, IntKind.bits, IntKind.signed]
theorem wrap_u32 (n : Int) : IntKind.u32.wrap n = n % 4294967296 := by simp [IntKind.wrap, IntKind.bits, IntKind.signed]
/-- A list of bytes. -/
def Bytes (l : List Int) : Prop := ∀ x ∈ l, 0 ≤ x ∧ x ≤ 255
theorem Bytes.wf {l : List Int} (h : ∀ x ∈ l, (Lit.int .u8 x).wf = true) : Bytes l := fun x hx => wf_u8 (h x hx)
theorem Bytes.nil : Bytes [] := fun x hx => by cases hx
theorem Bytes.app {a b : List Int} (h : Bytes a) (k : Bytes b) : Bytes (a ++ b) := fun x hx => by
  rcases List.mem_append.1 hx with h' | h'
  · exact h x h'
  · exact k x h'
theorem Bytes.one {x : Int} (h : 0 ≤ x) (h' : x ≤ 255) : Bytes [x] := fun y hy => (List.mem_singleton.1 hy) ▸ ⟨h, h'⟩
theorem Bytes.sub {a b : List Int} (h : Bytes a) (k : ∀ x ∈ b, x ∈ a) : Bytes b := fun x hx => h x (k x hx)
theorem Bytes.take {a : List Int} (h : Bytes a) (n : Nat) : Bytes (a.take n) := h.sub fun _ hx => List.mem_of_mem_take hx
theorem Bytes.drop {a : List Int} (h : Bytes a) (n : Nat) : Bytes (a.drop n) := h.sub fun _ hx => List.mem_of_mem_drop hx
theorem rd_lt {l : List Int} {i : Nat} (h : i < l.length) : rd l (i : Int) = l[i] := by simp [rd, h]
theorem Bytes.rd {l : List Int} (h : Bytes l) (i : Int) : 0 ≤ rd l i ∧ rd l i ≤ 255 := by
  unfold PrintWords.rd
  by_cases hi : i.toNat < l.length
  · rw [List.getD_eq_getElem?_getD, List.getElem?_eq_getElem hi]; exact h _ (List.getElem_mem hi)
  · rw [List.getD_eq_getElem?_getD, List.getElem?_eq_none (by omega)]; simp
theorem drop_cons {α : Type} {l : List α} {i : Nat} (h : i < l.length) : l.drop i = l[i] :: l.drop (i + 1) := List.drop_eq_getElem_cons h
theorem within_eq (a b c : Int) : impl_within.f a b c = some (decide (b ≤ a ∧ a ≤ c)) := by
  unfold impl_within.f
  by_cases h : a ≥ b
  · rw [if_pos h]; simp; intro; omega
  · rw [if_neg h]; simp; intro; omega
theorem l1In_eq (a b c : Int) : spec_l1In.f a b c = some (decide (b ≤ a ∧ a ≤ c)) := by
  unfold spec_l1In.f
  by_cases h : a ≥ b
  · rw [if_pos h]; simp; intro; omega
  · rw [if_neg h]; simp; intro; omega
/-! ### the hash -/
def hashFrom (h : Int) : List Int → Int
  | [] => Go.bits .xor .u32 h (h / 32768)
  | b :: t => hashFrom (((Go.bits .xor .u32 h (b % 4294967296)) * 16777619) % 4294967296) t
def hashOf (s : ByteArray) (seed : Int) : Int := hashFrom ((2166136261 + ((seed % 4294967296) * 40503)) % 4294967296) (bytesOf s)
theorem spec_l6Hash_l0 (s : ByteArray) (hs : s.size ≤ 4611686018427387904) : ∀ (d i : Nat) (h : Int), s.size - i = d → i ≤ s.size → Ev (fun k => spec_l6Hash.l0 k s h (i : Int)) (hashFrom h ((bytesOf s).drop i)) := by
  intro d
  have hl := bytesOf_length s
  induction d with
  | zero =>
    intro i h hd hi
    refine Ev_succ ?_
    simp only [spec_l6Hash.l0]
    simp only [if_neg (show ¬ (i : Int) < (s.size : Int) by omega)]
    rw [List.drop_eq_nil_of_le (by omega)]
    exact Ev.now _
  | succ d ih =>
    intro i h hd hi
    refine Ev_succ ?_
    simp only [spec_l6Hash.l0]
    simp only [if_pos (show (i : Int) < (s.size : Int) by omega), if_pos (show 0 ≤ (i : Int) by omega)]
    rw [← rd_bytesOf, rd_lt (by omega), w64 (by omega) (by omega), drop_cons (l := bytesOf s) (i := i) (by omega)]
    exact ih (i + 1) _ (by omega) (by omega)
theorem spec_l6Hash_ev (s : ByteArray) (hs : s.size ≤ 4611686018427387904) (seed : Int) : Ev (fun k => spec_l6Hash.f k s seed) (hashOf s seed) := by
  unfold spec_l6Hash.f hashOf
  rw [show (2166136261 + seed % 4294967296 * 40503 % 4294967296) % 4294967296 = (2166136261 + seed % 4294967296 * 40503) % 4294967296 by omega]
  have := spec_l6Hash_l0 s hs s.size 0 ((2166136261 + seed % 4294967296 * 40503) % 4294967296) (by omega) (by omega)
  simpa using this
theorem impl_hash_l0 (s : ByteArray) (hs : s.size ≤ 4611686018427387904) : ∀ (d i : Nat) (h : Int), s.size - i = d → i ≤ s.size → Ev (fun k => impl_hash.l0 k s h (i : Int)) (hashFrom h ((bytesOf s).drop i)) := by
  intro d
  have hl := bytesOf_length s
  induction d with
  | zero =>
    intro i h hd hi
    refine Ev_succ ?_
    simp only [impl_hash.l0]
    simp only [if_neg (show ¬ (i : Int) < (s.size : Int) by omega)]
    rw [List.drop_eq_nil_of_le (by omega)]
    exact Ev.now _
  | succ d ih =>
    intro i h hd hi
    refine Ev_succ ?_
    simp only [impl_hash.l0]
    simp only [if_pos (show (i : Int) < (s.size : Int) by omega), if_pos (show 0 ≤ (i : Int) by omega)]
    rw [rd_lt (by omega), w64 (by omega) (by omega), drop_cons (l := bytesOf s) (i := i) (by omega)]
    exact ih (i + 1) _ (by omega) (by omega)
theorem impl_hash_ev (s : ByteArray) (hs : s.size ≤ 4611686018427387904) (seed : Int) : Ev (fun k => impl_hash.f k s seed) (hashOf s seed) := by
  unfold impl_hash.f hashOf
  simp only [if_pos (show s.size ≤ 9223372036854775807 by omega)]
  have := impl_hash_l0 s hs s.size 0 ((2166136261 + seed % 4294967296 * 40503) % 4294967296) (by omega) (by omega)
  simpa using this
theorem FnExactHashOf : laws_FnExactHashOf.Pure := by
  intro s seed h1 h2
  refine Ev.rounds ?_
  unfold laws_FnExactHashOf.f
  by_cases hbig : (s.size : Int) > 1048576
  · simp only [if_pos hbig]; exact Ev.now _
  simp only [if_neg hbig]
  refine Ev.bind (a := if 0 ≤ seed ∧ seed ≤ 1000 then (hashOf s seed, true) else (0, false)) ?_ ?_
  · unfold spec_HashOf.f
    refine Ev.bind (Ev_some (l1In_eq _ _ _)) ?_
    by_cases h : 0 ≤ seed ∧ seed ≤ 1000
    · rw [decide_eq_true h, if_pos h]
      simp only [if_true]
      exact Ev.bind (spec_l6Hash_ev s (by omega) seed) (Ev.now _)
    · rw [decide_eq_false h, if_neg h]
      simp only [Bool.false_eq_true, if_false]
      exact Ev.now _
  refine Ev.bind (a := if 0 ≤ seed ∧ seed ≤ 1000 then (hashOf s seed, true) else (0, false)) ?_ ?_
  · unfold impl_HashOf.f
    refine Ev.bind (Ev_some (within_eq _ _ _)) ?_
    by_cases h : 0 ≤ seed ∧ seed ≤ 1000
    · rw [decide_eq_true h, if_pos h]
      simp only [if_true]
      exact Ev.bind (impl_hash_ev s (by omega) seed) (Ev.now _)
    · rw [decide_eq_false h, if_neg h]
      simp only [Bool.false_eq_true, if_false]
      exact Ev.now _
  simp only [if_true, bne_self_eq_false, Bool.false_eq_true, if_false]
  exact Ev.now _
end Go.Proofs.Ytmlbbmdhnnpgbaa.Pure
