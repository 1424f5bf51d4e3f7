/- The law FnExactReadFilter answers true, for all bytes. -/
import Derived.Test.YtmlbbmdhnnpgbaaPFnExactReadFilterx4
import Derived.Test.YtmlbbmdhnnpgbaaPFnExactReadFilterx4
set_option linter.unusedVariables false
set_option linter.unusedSimpArgs false
namespace Go.Proofs.Ytmlbbmdhnnpgbaa.Pure
open Go.RowKit Go.Proofs.Ytmlbbmdhnnpgbaa.PFnExactReadFilter Go.Proofs.YtmlbbmdhnnpgbaaW Go.Proofs.YtmlbbmdhnnpgbaaW.PrintWords Go.Proofs.YtmlbbmdhnnpgbaaW.PrintLast Go.Proofs.YtmlbbmdhnnpgbaaW.PrintMore
/-! ### base: rounds, numbers -/
theorem Ev_succ {α : Type} {g : Nat → Option α} {r : α} (h : Ev (fun k => g (k + 1)) r) : Ev g r := Ev.step (fun _ => rfl) h
theorem Ev_some {α : Type} {o : Option α} {r : α} (h : o = some r) : Ev (fun _ => o) r := ⟨0, fun _ _ => h⟩
theorem Ev_cast {α : Type} {g : Nat → Option α} {r q : α} (h : Ev g r) (e : r = q) : Ev g q := e ▸ h
theorem w64 {n : Int} (h : -9223372036854775808 ≤ n) (h' : n ≤ 9223372036854775807) : wrap64 n = n := by unfold wrap64; omega
theorem wf_i64 {n : Int} (h : (Lit.int .i64 n).wf = true) : -9223372036854775808 ≤ n ∧ n ≤ 9223372036854775807 := by
  simp only [Lit.wf, IntKind.min, IntKind.max, IntKind.signed, IntKind.bits, Bool.and_eq_true, decide_eq_true_eq, if_true] at h
  omega
theorem wf_u64 {n : Int} (h : (Lit.int .u64 n).wf = true) : 0 ≤ n ∧ n ≤ 18446744073709551615 := by
  simp only [Lit.wf, IntKind.min, IntKind.max, IntKind.signed, IntKind.bits, Bool.and_eq_true, decide_eq_true_eq, if_true] at h
  simp at h
  omega
theorem wf_u8 {n : Int} (h : (Lit.int .u8 n).wf = true) : 0 ≤ n ∧ n ≤ 255 := by
  simp only [Lit.wf, IntKind.min, IntKind.max, IntKind.signed, IntKind.bits, Bool.and_eq_true, decide_eq_true_eq, if_true] at h
  simp at h
  omega
theorem wrap_u64 (n : Int) : IntKind.u64.wrap n = n % 18446744073709551616 := by simp [IntKind.wrap, IntKind.bits, IntKind.signed]
theorem wrap_u32 (n : Int) : IntKind.u32.wrap n = n % 4294967296 := by simp [IntKind.wrap, IntKind.bits, IntKind.signed]
/-- A list of bytes. -/
def Bytes (l : List Int) : Prop := ∀ x ∈ l, 0 ≤ x ∧ x ≤ 255
theorem Bytes.wf {l : List Int} (h : ∀ x ∈ l, (Lit.int .u8 x).wf = true) : Bytes l := fun x hx => wf_u8 (h x hx)
theorem Bytes.nil : Bytes [] := fun x hx => by cases hx
theorem Bytes.app {a b : List Int} (h : Bytes a) (k : Bytes b) : Bytes (a ++ b) := fun x hx => by
  rcases List.mem_append.1 hx with h' | h'
  · exact h x h'
  · exact k x h'
theorem Bytes.one {x : Int} (h : 0 ≤ x) (h' : x ≤ 255) : Bytes [x] := fun y hy => (List.mem_singleton.1 hy) ▸ ⟨h, h'⟩
theorem Bytes.sub {a b : List Int} (h : Bytes a) (k : ∀ x ∈ b, x ∈ a) : Bytes b := fun x hx => h x (k x hx)
theorem Bytes.take {a : List Int} (h : Bytes a) (n : Nat) : Bytes (a.take n) := h.sub fun _ hx => List.mem_of_mem_take hx
theorem Bytes.drop {a : List Int} (h : Bytes a) (n : Nat) : Bytes (a.drop n) := h.sub fun _ hx => List.mem_of_mem_drop hx
theorem rd_lt {l : List Int} {i : Nat} (h : i < l.length) : rd l (i : Int) = l[i] := by simp [rd, h]
theorem Bytes.rd {l : List Int} (h : Bytes l) (i : Int) : 0 ≤ rd l i ∧ rd l i ≤ 255 := by
  unfold PrintWords.rd
  by_cases hi : i.toNat < l.length
  · rw [List.getD_eq_getElem?_getD, List.getElem?_eq_getElem hi]; exact h _ (List.getElem_mem hi)
  · rw [List.getD_eq_getElem?_getD, List.getElem?_eq_none (by omega)]; simp
theorem drop_cons {α : Type} {l : List α} {i : Nat} (h : i < l.length) : l.drop i = l[i] :: l.drop (i + 1) := List.drop_eq_getElem_cons h
/-! ### the laws' own words on bytes -/
theorem eqByteS_l0 (a b : List Int) (hl : a.length = b.length) (hb : a.length ≤ 4611686018427387904) :
    ∀ (d i : Nat), a.length - i = d → i ≤ a.length → Ev (fun k => laws_eqByteS.l0 k a b (i : Int)) (decide (a.drop i = b.drop i)) := by
  intro d
  induction d with
  | zero =>
    intro i hd hi
    refine Ev_succ ?_
    simp only [laws_eqByteS.l0]
    simp only [if_neg (show ¬ (i : Int) < (a.length : Int) by omega)]
    exact Ev_cast (Ev.now _) (by rw [List.drop_eq_nil_of_le (by omega), List.drop_eq_nil_of_le (by omega)]; simp)
  | succ d ih =>
    intro i hd hi
    refine Ev_succ ?_
    simp only [laws_eqByteS.l0]
    simp only [if_pos (show (i : Int) < (a.length : Int) by omega), if_pos (show 0 ≤ (i : Int) by omega), if_pos (show (i : Int) < (b.length : Int) by omega)]
    rw [rd_lt (by omega), rd_lt (by omega), w64 (by omega) (by omega), drop_cons (l := a) (by omega), drop_cons (l := b) (i := i) (by omega)]
    by_cases e : a[i]'(by omega) = b[i]'(by omega)
    · simp only [if_pos e]
      exact Ev_cast (ih (i + 1) (by omega) (by omega)) (decide_eq_decide.2 (by rw [List.cons.injEq]; exact ⟨fun h => ⟨e, h⟩, fun h => h.2⟩))
    · simp only [if_neg e]
      exact Ev_cast (Ev.now _) (Eq.symm (decide_eq_false (by rw [List.cons.injEq]; exact fun h => e h.1)))
theorem eqByteS_ev (a b : List Int) (ha : a.length ≤ 4611686018427387904) : Ev (fun k => laws_eqByteS.f k a b) (decide (a = b)) := by
  unfold laws_eqByteS.f
  by_cases h : a.length = b.length
  · simp only [if_pos (show (a.length : Int) = (b.length : Int) by omega)]
    exact eqByteS_l0 a b h ha a.length 0 (by omega) (by omega)
  · simp only [if_neg (show ¬ (a.length : Int) = (b.length : Int) by omega)]
    exact Ev_cast (Ev.now _) (by simp; intro e; exact h (by rw [e]))
theorem eqByteS_same (a b : List Int) (ha : a.length ≤ 4611686018427387904) (e : a = b) : Ev (fun k => laws_eqByteS.f k a b) true := Ev_cast (eqByteS_ev a b ha) (by simp [e])
/-- What a list reads once it was marked from m on. -/
def markedFrom (m : Int) : Nat → List Int
  | 0 => []
  | n + 1 => (m % 256) :: markedFrom (m + 1) n
theorem markedFrom_length (n : Nat) : ∀ m, (markedFrom m n).length = n := by
  induction n with
  | zero => intro m; rfl
  | succ n ih => intro m; simp [markedFrom, ih]
theorem markByteS_l0 (m : Int) : ∀ (d i : Nat) (l : List Int), l.length - i = d → i ≤ l.length → l.length ≤ 1152921504606846976 → 0 ≤ m → m ≤ 1152921504606846976 + i →
    Ev (fun k => laws_markByteS.l0 k l m (i : Int)) (m + d, l.take i ++ markedFrom m d) := by
  intro d
  induction d generalizing m with
  | zero =>
    intro i l hd hi hl h0 hm
    refine Ev_succ ?_
    simp only [laws_markByteS.l0]
    simp only [if_neg (show ¬ (i : Int) < (l.length : Int) by omega)]
    exact Ev_cast (Ev.now _) (by rw [List.take_of_length_le (by omega)]; simp [markedFrom])
  | succ d ih =>
    intro i l hd hi hl h0 hm
    refine Ev_succ ?_
    simp only [laws_markByteS.l0]
    simp only [if_pos (show (i : Int) < (l.length : Int) by omega), if_pos (show 0 ≤ (i : Int) by omega)]
    rw [w64 (n := m + 1) (by omega) (by omega), w64 (by omega) (by omega)]
    refine Ev_cast (ih (m + 1) (i + 1) (l.set i (m % 256)) (by simp; omega) (by simp; omega) (by simpa using hl) (by omega) (by omega)) ?_
    refine Prod.ext (by simp; omega) ?_
    show (l.set i (m % 256)).take (i + 1) ++ markedFrom (m + 1) d = l.take i ++ markedFrom m (d + 1)
    have : (l.set i (m % 256)).take (i + 1) = l.take i ++ [m % 256] := by
      apply List.ext_getElem?
      intro j
      rw [List.getElem?_take, List.getElem?_append, List.getElem?_set]
      have : (l.take i).length = i := by simp; omega
      rw [this]
      by_cases h1 : j < i
      · rw [if_pos (by omega), if_neg (by omega), if_pos h1, List.getElem?_take, if_pos h1]
      · by_cases h2 : j = i
        · subst h2; simp; omega
        · rw [if_neg (by omega), if_neg h1]; simp; omega
    rw [this]; simp [markedFrom]
theorem markByteS_ev (l : List Int) (m : Int) (hl : l.length ≤ 1152921504606846976) (h0 : 0 ≤ m) (hm : m ≤ 1152921504606846976) : Ev (fun k => laws_markByteS.f k l m) (m + l.length, markedFrom m l.length) := by
  unfold laws_markByteS.f
  exact Ev_cast (markByteS_l0 m l.length 0 l (by omega) (by omega) hl h0 (by omega)) (by simp)
theorem heldByteS_l0 : ∀ (n : Nat) (m : Int) (i : Nat) (p : List Int), p.length = i → i + n ≤ 1152921504606846976 → 0 ≤ m → m ≤ 1152921504606846976 + i →
    Ev (fun k => laws_heldByteS.l0 k (p ++ markedFrom m n) m (i : Int)) (m + n) := by
  intro n
  induction n with
  | zero =>
    intro m i p hp hl h0 hm
    refine Ev_succ ?_
    simp only [laws_heldByteS.l0]
    simp only [markedFrom, List.append_nil, if_neg (show ¬ (i : Int) < (p.length : Int) by omega)]
    exact Ev_cast (Ev.now _) (by simp)
  | succ n ih =>
    intro m i p hp hl h0 hm
    refine Ev_succ ?_
    simp only [laws_heldByteS.l0]
    have hlen : (p ++ markedFrom m (n + 1)).length = i + n + 1 := by rw [List.length_append, markedFrom_length]; omega
    have hr : rd (p ++ markedFrom m (n + 1)) (i : Int) = m % 256 := by
      rw [rd_lt (by omega)]; simp [markedFrom, hp]
    simp only [if_pos (show (i : Int) < ((p ++ markedFrom m (n + 1)).length : Int) by omega), if_pos (show 0 ≤ (i : Int) by omega), hr, if_true]
    rw [w64 (n := m + 1) (by omega) (by omega), w64 (by omega) (by omega)]
    have e : p ++ markedFrom m (n + 1) = (p ++ [m % 256]) ++ markedFrom (m + 1) n := by simp [markedFrom]
    rw [e]
    exact Ev_cast (ih (m + 1) (i + 1) (p ++ [m % 256]) (by simp [hp]) (by omega) (by omega) (by omega)) (by omega)
theorem heldByteS_ev (m : Int) (n : Nat) (hl : n ≤ 1152921504606846976) (h0 : 0 ≤ m) (hm : m ≤ 1152921504606846976) : Ev (fun k => laws_heldByteS.f k (markedFrom m n) m) (m + n) := by
  unfold laws_heldByteS.f
  exact heldByteS_l0 n m 0 [] rfl (by omega) h0 (by omega)
theorem toByteS_l0 (l : List Int) : ∀ (d i : Nat) (o : List Int), l.length - i = d → i ≤ l.length → l.length ≤ 1152921504606846976 → o.length = l.length → o.take i = l.take i →
    Ev (fun k => laws_toByteS.l0 k l o (i : Int)) l := by
  intro d
  induction d with
  | zero =>
    intro i o hd hi hl ho ht
    refine Ev_succ ?_
    simp only [laws_toByteS.l0]
    simp only [if_neg (show ¬ (i : Int) < (l.length : Int) by omega)]
    exact Ev_cast (Ev.now _) (by rw [List.take_of_length_le (by omega), List.take_of_length_le (by omega)] at ht; exact ht)
  | succ d ih =>
    intro i o hd hi hl ho ht
    refine Ev_succ ?_
    simp only [laws_toByteS.l0]
    simp only [if_pos (show (i : Int) < (l.length : Int) by omega), if_pos (show 0 ≤ (i : Int) by omega), if_pos (show (i : Int) < (o.length : Int) by omega)]
    rw [rd_lt (by omega), w64 (by omega) (by omega)]
    refine ih (i + 1) _ (by omega) (by omega) hl (by simpa using ho) ?_
    apply List.ext_getElem?
    intro j
    rw [List.getElem?_take, List.getElem?_take]
    by_cases h1 : j < i
    · have := congrArg (fun x => x[j]?) ht
      simp only [List.getElem?_take, if_pos h1] at this
      rw [if_pos (by omega), if_pos (by omega), List.getElem?_set]
      simp only [Int.toNat_natCast]
      rw [if_neg (by omega), this]
    · by_cases h2 : j = i
      · subst h2
        rw [if_pos (by omega), if_pos (by omega)]
        simp [show j < l.length by omega, show j < o.length by omega]
      · rw [if_neg (by omega), if_neg (by omega)]
theorem toByteS_ev (l : List Int) (hl : l.length ≤ 281474976710656) : Ev (fun k => laws_toByteS.f k l) l := by
  unfold laws_toByteS.f
  simp only [if_pos (show 0 ≤ (l.length : Int) by omega), Int.toNat_natCast, if_pos hl]
  exact toByteS_l0 l l.length 0 _ (by omega) (by omega) (by omega) (by simp) (by simp)
theorem within_eq (a b c : Int) : impl_within.f a b c = some (decide (b ≤ a ∧ a ≤ c)) := by
  unfold impl_within.f
  by_cases h : a ≥ b
  · rw [if_pos h]; simp; intro; omega
  · rw [if_neg h]; simp; intro; omega
theorem l1In_eq (a b c : Int) : spec_l1In.f a b c = some (decide (b ≤ a ∧ a ≤ c)) := by
  unfold spec_l1In.f
  by_cases h : a ≥ b
  · rw [if_pos h]; simp; intro; omega
  · rw [if_neg h]; simp; intro; omega
theorem eqFilter_same (w : Int) (l : List Int) (hl : l.length ≤ 4611686018427387904) : Ev (fun k => laws_eqFilter.f k w l w l) true := by
  unfold laws_eqFilter.f
  simp only [if_true]
  exact Ev.bind (eqByteS_same l l hl rfl) (Ev_cast (by simp only [if_true]; exact Ev.now _) rfl)
def goodFilter (w : Int) (l : List Int) : Bool := decide ((1 ≤ w ∧ w ≤ 8) ∧ 1 ≤ l.length ∧ l.length ≤ 200)
theorem spec_GoodFilter_eq (w : Int) (l : List Int) : spec_GoodFilter.f w l = some (goodFilter w l) := by
  unfold spec_GoodFilter.f goodFilter
  rw [l1In_eq, Option.bind_some]
  by_cases h : 1 ≤ w ∧ w ≤ 8
  · rw [decide_eq_true h, if_pos rfl, l1In_eq, Option.bind_some]
    congr 1
    rw [decide_eq_decide]
    omega
  · rw [decide_eq_false h, if_neg (by simp)]
    congr 1
    rw [eq_comm, decide_eq_false_iff_not]
    exact fun hh => h hh.1
theorem impl_GoodFilter_eq (w : Int) (l : List Int) : impl_GoodFilter.f w l = some (goodFilter w l) := by
  unfold impl_GoodFilter.f goodFilter
  rw [within_eq, Option.bind_some]
  by_cases h : 1 ≤ w ∧ w ≤ 8
  · rw [decide_eq_true h, if_pos rfl, within_eq, Option.bind_some]
    congr 1
    rw [decide_eq_decide]
    omega
  · rw [decide_eq_false h, if_neg (by simp)]
    congr 1
    rw [eq_comm, decide_eq_false_iff_not]
    exact fun hh => h hh.1
def readFilter (l : List Int) : Int × List Int × Bool := if l.length = 0 then (0, [], false) else if goodFilter (rd l 0) (l.drop 1) = true then (rd l 0, l.drop 1, true) else (0, [], false)
theorem readFilter_length (l : List Int) : (readFilter l).2.1.length ≤ l.length := by
  unfold readFilter
  split
  · simp
  · split
    · simp
    · simp
theorem spec_ReadFilter_eq (l : List Int) (hb : Bytes l) (hl : l.length ≤ 1048576) : spec_ReadFilter.f l = some (readFilter l) := by
  unfold spec_ReadFilter.f readFilter
  have hw := hb.rd 0
  by_cases h : l.length = 0
  · rw [if_pos (by omega), if_pos h]
  · rw [if_neg (by omega), if_neg h, if_pos (by omega)]
    simp only [Option.bind_some]
    rw [if_pos (by omega), if_pos (by simp; omega), List.nil_append, w64 (by omega) (by omega), spec_GoodFilter_eq, Option.bind_some]
    by_cases hg : goodFilter (rd l 0) (l.drop 1) = true
    · rw [if_pos hg, if_pos hg]
    · rw [if_neg hg, if_neg hg]
theorem impl_ReadFilter_eq (l : List Int) (hb : Bytes l) (hl : l.length ≤ 1048576) : impl_ReadFilter.f l = some (readFilter l) := by
  unfold impl_ReadFilter.f readFilter slices_Clone_byte_byte.f
  have hw := hb.rd 0
  by_cases h : l.length = 0
  · rw [if_pos (by omega), if_pos h]
  · rw [if_neg (by omega), if_neg h, if_pos (by omega), if_pos (by omega), if_pos (by simp; omega)]
    simp only [Option.bind_some]
    rw [w64 (by omega) (by omega), impl_GoodFilter_eq, Option.bind_some]
    by_cases hg : goodFilter (rd l 0) (l.drop 1) = true
    · rw [if_pos hg, if_pos hg]
    · rw [if_neg hg, if_neg hg]
theorem markFilter_ev (w : Int) (l : List Int) (hl : l.length ≤ 1048576) : Ev (fun k => laws_markFilter.f k w l 1) (1 + (l.length : Int), markedFrom 1 l.length) := by
  unfold laws_markFilter.f
  exact Ev.bind (markByteS_ev l 1 (by omega) (by omega) (by omega)) (Ev.now _)
theorem heldFilter_ev (w : Int) (n : Nat) (hl : n ≤ 1048576) : Ev (fun k => laws_heldFilter.f k w (markedFrom 1 n) 1) (1 + (n : Int)) := by
  unfold laws_heldFilter.f
  refine Ev.bind (heldByteS_ev 1 n (by omega) (by omega) (by omega)) ?_
  simp only [if_neg (show ¬ (1 + (n : Int) < 0) by omega)]
  exact Ev.now _
theorem FnExactReadFilter : laws_FnExactReadFilter.Pure := by
  intro l h3
  have hb := Bytes.wf h3.2
  refine Ev.rounds ?_
  unfold laws_FnExactReadFilter.f
  by_cases hbig : (l.length : Int) > 1048576
  · simp only [if_pos hbig]; exact Ev.now _
  have hl : l.length ≤ 1048576 := by omega
  have hr := readFilter_length l
  simp only [if_neg hbig]
  refine Ev.bind (toByteS_ev l (by omega)) ?_
  refine Ev.bind (Ev_some (spec_ReadFilter_eq l hb hl)) ?_
  refine Ev.bind (toByteS_ev l (by omega)) ?_
  refine Ev.bind (Ev_some (impl_ReadFilter_eq l hb hl)) ?_
  refine Ev.bind (eqFilter_same _ _ (by omega)) ?_
  simp only [if_true, bne_self_eq_false]
  refine Ev_succ ?_
  simp only [laws_FnExactReadFilter.j0, Bool.false_eq_true, if_false]
  refine Ev.bind (toByteS_ev l (by omega)) ?_
  refine Ev.bind (eqByteS_same _ _ (by omega) rfl) ?_
  simp only [if_true]
  refine Ev.bind (markByteS_ev _ 1 (by omega) (by omega) (by omega)) ?_
  simp only [if_neg (show ¬ (1 + (l.length : Int) < 0) by omega)]
  refine Ev.bind (eqFilter_same _ _ (by omega)) ?_
  simp only [if_true, bne_self_eq_false]
  refine Ev_succ ?_
  simp only [laws_FnExactReadFilter.j1, Bool.false_eq_true, if_false]
  refine Ev.bind (markFilter_ev _ _ (by omega)) ?_
  refine Ev.bind (heldFilter_ev _ _ (by omega)) ?_
  simp only [if_neg (show ¬ (1 + ((readFilter l).2.1.length : Int) < 0) by omega), if_true]
  refine Ev.bind (toByteS_ev l (by omega)) ?_
  refine Ev.bind (Ev_some (impl_ReadFilter_eq l hb hl)) ?_
  refine Ev.bind (eqFilter_same _ _ (by omega)) ?_
  simp only [if_true, bne_self_eq_false]
  refine Ev_succ ?_
  simp only [laws_FnExactReadFilter.j2, Bool.false_eq_true, if_false]
  refine Ev.bind (heldFilter_ev _ _ (by omega)) ?_
  simp only [if_neg (show ¬ (1 + ((readFilter l).2.1.length : Int) < 0) by omega), if_true]
  exact Ev.now _
end Go.Proofs.Ytmlbbmdhnnpgbaa.Pure
