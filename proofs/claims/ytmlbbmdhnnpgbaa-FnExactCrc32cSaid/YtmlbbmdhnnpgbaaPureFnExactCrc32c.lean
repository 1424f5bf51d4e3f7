/- The law FnExactCrc32c answers true, for all bytes. -/
import Derived.Test.YtmlbbmdhnnpgbaaPFnExactCrc32cx1
import Derived.Test.YtmlbbmdhnnpgbaaPFnExactCrc32cx1
set_option linter.unusedVariables false
set_option linter.unusedSimpArgs false
namespace Go.Proofs.Ytmlbbmdhnnpgbaa.Pure
open Go.RowKit Go.Proofs.Ytmlbbmdhnnpgbaa.PFnExactCrc32c Go.Proofs.YtmlbbmdhnnpgbaaW Go.Proofs.YtmlbbmdhnnpgbaaW.PrintWords Go.Proofs.YtmlbbmdhnnpgbaaW.PrintLast Go.Proofs.YtmlbbmdhnnpgbaaW.PrintMore
/-! ### base: rounds, numbers -/
theorem Ev_succ {α : Type} {g : Nat → Option α} {r : α} (h : Ev (fun k => g (k + 1)) r) : Ev g r := Ev.step (fun _ => rfl) h
theorem Ev_some {α : Type} {o : Option α} {r : α} (h : o = some r) : Ev (fun _ => o) r := ⟨0, fun _ _ => h⟩
theorem Ev_cast {α : Type} {g : Nat → Option α} {r q : α} (h : Ev g r) (e : r = q) : Ev g q := e ▸ h
theorem w64 {n : Int} (h : -9223372036854775808 ≤ n) (h' : n ≤ 9223372036854775807) : wrap64 n = n := by unfold wrap64; omega
theorem wf_i64 {n : Int} (h : (Lit.int .i64 n).wf = true) : -9223372036854775808 ≤ n ∧ n ≤ 9223372036854775807 := by
  simp only [Lit.wf, IntKind.min, IntKind.max, IntKind.signed, IntKind.bits, Bool.and_eq_true, decide_eq_true_eq, if_true] at h
  omega
theorem wf_u64 {n : Int} (h : (Lit.int .u64 n).wf = true) : 0 ≤ n ∧ n ≤ 18446744073709551615 := by
  simp only [Lit.wf, IntKind.min, IntKind.max, IntKind.signed, IntKind.bits, Bool.and_eq_true, decide_eq_true_eq, if_true] at h
  simp at h
  omega
theorem wf_u8 {n : Int} (h : (Lit.int .u8 n).wf = true) : 0 ≤ n ∧ n ≤ 255 := by
  simp only [Lit.wf, IntKind.min, IntKind.max, IntKind.signed, IntKind.bits, Bool.and_eq_true, decide_eq_true_eq, if_true] at h
  simp at h
  omega
theorem wrap_u64 (n : Int) : IntKind.u64.wrap n = n % 18446744073709551616 := by simp [IntKind.wrap, IntKind.bits, IntKind.signed]
theorem wrap_u32 (n : Int) : IntKind.u32.wrap n = n % 4294967296 := by simp [IntKind.wrap, IntKind.bits, IntKind.signed]
/-- A list of bytes. -/
def Bytes (l : List Int) : Prop := ∀ x ∈ l, 0 ≤ x ∧ x ≤ 255
theorem Bytes.wf {l : List Int} (h : ∀ x ∈ l, (Lit.int .u8 x).wf = true) : Bytes l := fun x hx => wf_u8 (h x hx)
theorem Bytes.nil : Bytes [] := fun x hx => by cases hx
theorem Bytes.app {a b : List Int} (h : Bytes a) (k : Bytes b) : Bytes (a ++ b) := fun x hx => by
  rcases List.mem_append.1 hx with h' | h'
  · exact h x h'
  · exact k x h'
theorem Bytes.one {x : Int} (h : 0 ≤ x) (h' : x ≤ 255) : Bytes [x] := fun y hy => (List.mem_singleton.1 hy) ▸ ⟨h, h'⟩
theorem Bytes.sub {a b : List Int} (h : Bytes a) (k : ∀ x ∈ b, x ∈ a) : Bytes b := fun x hx => h x (k x hx)
theorem Bytes.take {a : List Int} (h : Bytes a) (n : Nat) : Bytes (a.take n) := h.sub fun _ hx => List.mem_of_mem_take hx
theorem Bytes.drop {a : List Int} (h : Bytes a) (n : Nat) : Bytes (a.drop n) := h.sub fun _ hx => List.mem_of_mem_drop hx
theorem rd_lt {l : List Int} {i : Nat} (h : i < l.length) : rd l (i : Int) = l[i] := by simp [rd, h]
theorem Bytes.rd {l : List Int} (h : Bytes l) (i : Int) : 0 ≤ rd l i ∧ rd l i ≤ 255 := by
  unfold PrintWords.rd
  by_cases hi : i.toNat < l.length
  · rw [List.getD_eq_getElem?_getD, List.getElem?_eq_getElem hi]; exact h _ (List.getElem_mem hi)
  · rw [List.getD_eq_getElem?_getD, List.getElem?_eq_none (by omega)]; simp
theorem drop_cons {α : Type} {l : List α} {i : Nat} (h : i < l.length) : l.drop i = l[i] :: l.drop (i + 1) := List.drop_eq_getElem_cons h
/-! ### the laws' own words on bytes -/
theorem eqByteS_l0 (a b : List Int) (hl : a.length = b.length) (hb : a.length ≤ 4611686018427387904) :
    ∀ (d i : Nat), a.length - i = d → i ≤ a.length → Ev (fun k => laws_eqByteS.l0 k a b (i : Int)) (decide (a.drop i = b.drop i)) := by
  intro d
  induction d with
  | zero =>
    intro i hd hi
    refine Ev_succ ?_
    simp only [laws_eqByteS.l0]
    simp only [if_neg (show ¬ (i : Int) < (a.length : Int) by omega)]
    exact Ev_cast (Ev.now _) (by rw [List.drop_eq_nil_of_le (by omega), List.drop_eq_nil_of_le (by omega)]; simp)
  | succ d ih =>
    intro i hd hi
    refine Ev_succ ?_
    simp only [laws_eqByteS.l0]
    simp only [if_pos (show (i : Int) < (a.length : Int) by omega), if_pos (show 0 ≤ (i : Int) by omega), if_pos (show (i : Int) < (b.length : Int) by omega)]
    rw [rd_lt (by omega), rd_lt (by omega), w64 (by omega) (by omega), drop_cons (l := a) (by omega), drop_cons (l := b) (i := i) (by omega)]
    by_cases e : a[i]'(by omega) = b[i]'(by omega)
    · simp only [if_pos e]
      exact Ev_cast (ih (i + 1) (by omega) (by omega)) (decide_eq_decide.2 (by rw [List.cons.injEq]; exact ⟨fun h => ⟨e, h⟩, fun h => h.2⟩))
    · simp only [if_neg e]
      exact Ev_cast (Ev.now _) (Eq.symm (decide_eq_false (by rw [List.cons.injEq]; exact fun h => e h.1)))
theorem eqByteS_ev (a b : List Int) (ha : a.length ≤ 4611686018427387904) : Ev (fun k => laws_eqByteS.f k a b) (decide (a = b)) := by
  unfold laws_eqByteS.f
  by_cases h : a.length = b.length
  · simp only [if_pos (show (a.length : Int) = (b.length : Int) by omega)]
    exact eqByteS_l0 a b h ha a.length 0 (by omega) (by omega)
  · simp only [if_neg (show ¬ (a.length : Int) = (b.length : Int) by omega)]
    exact Ev_cast (Ev.now _) (by simp; intro e; exact h (by rw [e]))
theorem eqByteS_same (a b : List Int) (ha : a.length ≤ 4611686018427387904) (e : a = b) : Ev (fun k => laws_eqByteS.f k a b) true := Ev_cast (eqByteS_ev a b ha) (by simp [e])
theorem toByteS_l0 (l : List Int) : ∀ (d i : Nat) (o : List Int), l.length - i = d → i ≤ l.length → l.length ≤ 1152921504606846976 → o.length = l.length → o.take i = l.take i →
    Ev (fun k => laws_toByteS.l0 k l o (i : Int)) l := by
  intro d
  induction d with
  | zero =>
    intro i o hd hi hl ho ht
    refine Ev_succ ?_
    simp only [laws_toByteS.l0]
    simp only [if_neg (show ¬ (i : Int) < (l.length : Int) by omega)]
    exact Ev_cast (Ev.now _) (by rw [List.take_of_length_le (by omega), List.take_of_length_le (by omega)] at ht; exact ht)
  | succ d ih =>
    intro i o hd hi hl ho ht
    refine Ev_succ ?_
    simp only [laws_toByteS.l0]
    simp only [if_pos (show (i : Int) < (l.length : Int) by omega), if_pos (show 0 ≤ (i : Int) by omega), if_pos (show (i : Int) < (o.length : Int) by omega)]
    rw [rd_lt (by omega), w64 (by omega) (by omega)]
    refine ih (i + 1) _ (by omega) (by omega) hl (by simpa using ho) ?_
    apply List.ext_getElem?
    intro j
    rw [List.getElem?_take, List.getElem?_take]
    by_cases h1 : j < i
    · have := congrArg (fun x => x[j]?) ht
      simp only [List.getElem?_take, if_pos h1] at this
      rw [if_pos (by omega), if_pos (by omega), List.getElem?_set]
      simp only [Int.toNat_natCast]
      rw [if_neg (by omega), this]
    · by_cases h2 : j = i
      · subst h2
        rw [if_pos (by omega), if_pos (by omega)]
        simp [show j < l.length by omega, show j < o.length by omega]
      · rw [if_neg (by omega), if_neg (by omega)]
theorem toByteS_ev (l : List Int) (hl : l.length ≤ 281474976710656) : Ev (fun k => laws_toByteS.f k l) l := by
  unfold laws_toByteS.f
  simp only [if_pos (show 0 ≤ (l.length : Int) by omega), Int.toNat_natCast, if_pos hl]
  exact toByteS_l0 l l.length 0 _ (by omega) (by omega) (by omega) (by simp) (by simp)
/-! ### the cyclic check -/
def crcBit (c : Int) : Int := if Go.bits .and .u32 c 1 = 1 then Go.bits .xor .u32 (c / 2) 2197175160 else c / 2
def crcBits : Nat → Int → Int
  | 0, c => c
  | n + 1, c => crcBits n (crcBit c)
def crcFrom (c : Int) : List Int → Int
  | [] => c
  | b :: t => crcFrom (crcBits 8 (Go.bits .xor .u32 c (b % 4294967296))) t
def crcOf (l : List Int) : Int := Go.bits .xor .u32 4294967295 (crcFrom 4294967295 l)
theorem bits_xor_comm (k : IntKind) (a b : Int) : Go.bits .xor k a b = Go.bits .xor k b a := by
  unfold Go.bits
  show k.wrap (((BitVec.ofInt k.bits a ^^^ BitVec.ofInt k.bits b).toNat : Nat) : Int) = k.wrap (((BitVec.ofInt k.bits b ^^^ BitVec.ofInt k.bits a).toNat : Nat) : Int)
  rw [BitVec.xor_comm]
theorem spec_l1Crc_l1 (l : List Int) (L I : Int) (r : Int) : ∀ (n : Nat) (c : Int), n ≤ 8 → Ev (fun k => spec_l1Crc.l0 k (crcBits n c) l L (wrap64 (I + 1))) r → Ev (fun k => spec_l1Crc.l1 k c (8 - (n : Int)) l L I) r := by
  intro n
  induction n with
  | zero =>
    intro c hn h
    refine Ev_succ ?_
    simp only [spec_l1Crc.l1]
    simp only [if_neg (show ¬ (8 : Int) - (0 : Nat) < 8 by omega)]
    exact h
  | succ n ih =>
    intro c hn h
    refine Ev_succ ?_
    simp only [spec_l1Crc.l1]
    simp only [if_pos (show (8 : Int) - ((n + 1 : Nat) : Int) < 8 by omega)]
    rw [w64 (n := (8 : Int) - ((n + 1 : Nat) : Int) + 1) (by omega) (by omega), show (8 : Int) - ((n + 1 : Nat) : Int) + 1 = 8 - (n : Int) by omega]
    have e : crcBits (n + 1) c = crcBits n (crcBit c) := rfl
    rw [e] at h
    by_cases hb : Go.bits .and .u32 c 1 = 1
    · simp only [if_pos hb]
      exact ih _ (by omega) (by rw [crcBit, if_pos hb] at h; exact h)
    · simp only [if_neg hb]
      exact ih _ (by omega) (by rw [crcBit, if_neg hb] at h; exact h)
theorem spec_l1Crc_l0 (l : List Int) (hl : l.length ≤ 4611686018427387904) : ∀ (d i : Nat) (c : Int), l.length - i = d → i ≤ l.length → Ev (fun k => spec_l1Crc.l0 k c l (l.length : Int) (i : Int)) (Go.bits .xor .u32 (crcFrom c (l.drop i)) 4294967295) := by
  intro d
  induction d with
  | zero =>
    intro i c hd hi
    refine Ev_succ ?_
    simp only [spec_l1Crc.l0]
    simp only [if_neg (show ¬ (i : Int) < (l.length : Int) by omega)]
    rw [List.drop_eq_nil_of_le (by omega)]
    exact Ev.now _
  | succ d ih =>
    intro i c hd hi
    refine Ev_succ ?_
    simp only [spec_l1Crc.l0]
    simp only [if_pos (show (i : Int) < (l.length : Int) by omega), if_pos (show 0 ≤ (i : Int) by omega)]
    have := spec_l1Crc_l1 l (l.length : Int) (i : Int) _ 8 (Go.bits .xor .u32 c (rd l (i : Int) % 4294967296)) (by omega) (by
      rw [w64 (by omega) (by omega)]
      exact ih (i + 1) _ (by omega) (by omega))
    rw [rd_lt (by omega)] at this ⊢
    rw [drop_cons (l := l) (i := i) (by omega)]
    exact this
theorem spec_l1Crc_ev (l : List Int) (hl : l.length ≤ 4611686018427387904) : Ev (fun k => spec_l1Crc.f k l) (crcOf l) := by
  unfold spec_l1Crc.f crcOf
  have := spec_l1Crc_l0 l hl l.length 0 4294967295 (by omega) (by omega)
  rw [bits_xor_comm]
  simpa using this
theorem impl_Crc32c_l1 (l : List Int) (L I : Int) (r : Int) : ∀ (n : Nat) (c : Int), n ≤ 8 → Ev (fun k => impl_Crc32c.l0 k (crcBits n c) l L (wrap64 (I + 1))) r → Ev (fun k => impl_Crc32c.l1 k c l L I (8 - (n : Int))) r := by
  intro n
  induction n with
  | zero =>
    intro c hn h
    refine Ev_succ ?_
    simp only [impl_Crc32c.l1]
    simp only [if_neg (show ¬ (8 : Int) - (0 : Nat) < 8 by omega)]
    exact h
  | succ n ih =>
    intro c hn h
    refine Ev_succ ?_
    simp only [impl_Crc32c.l1]
    simp only [if_pos (show (8 : Int) - ((n + 1 : Nat) : Int) < 8 by omega)]
    rw [w64 (n := (8 : Int) - ((n + 1 : Nat) : Int) + 1) (by omega) (by omega), show (8 : Int) - ((n + 1 : Nat) : Int) + 1 = 8 - (n : Int) by omega]
    have e : crcBits (n + 1) c = crcBits n (crcBit c) := rfl
    rw [e] at h
    by_cases hb : Go.bits .and .u32 c 1 = 1
    · simp only [if_pos hb]
      exact ih _ (by omega) (by rw [crcBit, if_pos hb] at h; exact h)
    · simp only [if_neg hb]
      exact ih _ (by omega) (by rw [crcBit, if_neg hb] at h; exact h)
theorem impl_Crc32c_l0 (l : List Int) (hl : l.length ≤ 4611686018427387904) : ∀ (d i : Nat) (c : Int), l.length - i = d → i ≤ l.length → Ev (fun k => impl_Crc32c.l0 k c l (l.length : Int) (i : Int)) (Go.bits .xor .u32 4294967295 (crcFrom c (l.drop i))) := by
  intro d
  induction d with
  | zero =>
    intro i c hd hi
    refine Ev_succ ?_
    simp only [impl_Crc32c.l0]
    simp only [if_neg (show ¬ (i : Int) < (l.length : Int) by omega)]
    rw [List.drop_eq_nil_of_le (by omega)]
    exact Ev.now _
  | succ d ih =>
    intro i c hd hi
    refine Ev_succ ?_
    simp only [impl_Crc32c.l0]
    simp only [if_pos (show (i : Int) < (l.length : Int) by omega), if_pos (show 0 ≤ (i : Int) by omega)]
    have := impl_Crc32c_l1 l (l.length : Int) (i : Int) _ 8 (Go.bits .xor .u32 c (rd l (i : Int) % 4294967296)) (by omega) (by
      rw [w64 (by omega) (by omega)]
      exact ih (i + 1) _ (by omega) (by omega))
    rw [rd_lt (by omega)] at this ⊢
    rw [drop_cons (l := l) (i := i) (by omega)]
    exact this
theorem impl_Crc32c_ev (l : List Int) (hl : l.length ≤ 4611686018427387904) : Ev (fun k => impl_Crc32c.f k l) (crcOf l) := by
  unfold impl_Crc32c.f crcOf
  have := impl_Crc32c_l0 l hl l.length 0 4294967295 (by omega) (by omega)
  simpa using this
theorem FnExactCrc32c : laws_FnExactCrc32c.Pure := by
  intro l h3
  have hb := Bytes.wf h3.2
  refine Ev.rounds ?_
  unfold laws_FnExactCrc32c.f
  by_cases hbig : (l.length : Int) > 1048576
  · simp only [if_pos hbig]; exact Ev.now _
  simp only [if_neg hbig]
  refine Ev.bind (toByteS_ev l (by omega)) ?_
  refine Ev.bind (a := crcOf l) ?_ ?_
  · unfold spec_Crc32c.f
    exact Ev.bind (spec_l1Crc_ev l (by omega)) (Ev.now _)
  refine Ev.bind (toByteS_ev l (by omega)) ?_
  refine Ev.bind (impl_Crc32c_ev l (by omega)) ?_
  simp only [if_true]
  refine Ev.bind (toByteS_ev l (by omega)) ?_
  refine Ev.bind (eqByteS_same _ _ (by omega) rfl) ?_
  simp only [if_true]
  exact Ev.now _
end Go.Proofs.Ytmlbbmdhnnpgbaa.Pure
