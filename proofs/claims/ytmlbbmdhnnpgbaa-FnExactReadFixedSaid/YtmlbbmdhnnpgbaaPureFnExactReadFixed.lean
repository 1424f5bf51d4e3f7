/- The law FnExactReadFixed answers true, for all bytes, places and widths. -/
import Derived.Test.YtmlbbmdhnnpgbaaPFnExactReadFixedx2
import Derived.Test.YtmlbbmdhnnpgbaaPFnExactReadFixedx2
set_option linter.unusedVariables false
set_option linter.unusedSimpArgs false
namespace Go.Proofs.Ytmlbbmdhnnpgbaa.Pure
open Go.RowKit Go.Proofs.Ytmlbbmdhnnpgbaa.PFnExactReadFixed Go.Proofs.YtmlbbmdhnnpgbaaW Go.Proofs.YtmlbbmdhnnpgbaaW.PrintWords Go.Proofs.YtmlbbmdhnnpgbaaW.PrintLast Go.Proofs.YtmlbbmdhnnpgbaaW.PrintMore
/-! ### base: rounds, numbers -/
theorem Ev_succ {α : Type} {g : Nat → Option α} {r : α} (h : Ev (fun k => g (k + 1)) r) : Ev g r := Ev.step (fun _ => rfl) h
theorem Ev_some {α : Type} {o : Option α} {r : α} (h : o = some r) : Ev (fun _ => o) r := ⟨0, fun _ _ => h⟩
theorem Ev_cast {α : Type} {g : Nat → Option α} {r q : α} (h : Ev g r) (e : r = q) : Ev g q := e ▸ h
theorem w64 {n : Int} (h : -9223372036854775808 ≤ n) (h' : n ≤ 9223372036854775807) : wrap64 n = n := by unfold wrap64; omega
theorem wf_i64 {n : Int} (h : (Lit.int .i64 n).wf = true) : -9223372036854775808 ≤ n ∧ n ≤ 9223372036854775807 := by
  simp only [Lit.wf, IntKind.min, IntKind.max, IntKind.signed, IntKind.bits, Bool.and_eq_true, decide_eq_true_eq, if_true] at h
  omega
theorem wf_u64 {n : Int} (h : (Lit.int .u64 n).wf = true) : 0 ≤ n ∧ n ≤ 18446744073709551615 := by
  simp only [Lit.wf, IntKind.min, IntKind.max, IntKind.signed, IntKind.bits, Bool.and_eq_true, decide_eq_true_eq, if_true] at h
  simp at h
  omega
theorem wf_u8 {n : Int} (h : (Lit.int .u8 n).wf = true) : 0 ≤ n ∧ n ≤ 255 := by
  simp only [Lit.wf, IntKind.min, IntKind.max, IntKind.signed, IntKind.bits, Bool.and_eq_true, decide_eq_true_eq, if_true] at h
  simp at h
  omega
theorem wrap_u64 (n : Int) : IntKind.u64.wrap n = n % 18446744073709551616 := by simp [IntKind.wrap, IntKind.bits, IntKind.signed]
theorem wrap_u32 (n : Int) : IntKind.u32.wrap n = n % 4294967296 := by simp [IntKind.wrap, IntKind.bits, IntKind.signed]
/-- A list of bytes. -/
def Bytes (l : List Int) : Prop := ∀ x ∈ l, 0 ≤ x ∧ x ≤ 255
theorem Bytes.wf {l : List Int} (h : ∀ x ∈ l, (Lit.int .u8 x).wf = true) : Bytes l := fun x hx => wf_u8 (h x hx)
theorem Bytes.nil : Bytes [] := fun x hx => by cases hx
theorem Bytes.app {a b : List Int} (h : Bytes a) (k : Bytes b) : Bytes (a ++ b) := fun x hx => by
  rcases List.mem_append.1 hx with h' | h'
  · exact h x h'
  · exact k x h'
theorem Bytes.one {x : Int} (h : 0 ≤ x) (h' : x ≤ 255) : Bytes [x] := fun y hy => (List.mem_singleton.1 hy) ▸ ⟨h, h'⟩
theorem Bytes.sub {a b : List Int} (h : Bytes a) (k : ∀ x ∈ b, x ∈ a) : Bytes b := fun x hx => h x (k x hx)
theorem Bytes.take {a : List Int} (h : Bytes a) (n : Nat) : Bytes (a.take n) := h.sub fun _ hx => List.mem_of_mem_take hx
theorem Bytes.drop {a : List Int} (h : Bytes a) (n : Nat) : Bytes (a.drop n) := h.sub fun _ hx => List.mem_of_mem_drop hx
theorem rd_lt {l : List Int} {i : Nat} (h : i < l.length) : rd l (i : Int) = l[i] := by simp [rd, h]
theorem Bytes.rd {l : List Int} (h : Bytes l) (i : Int) : 0 ≤ rd l i ∧ rd l i ≤ 255 := by
  unfold PrintWords.rd
  by_cases hi : i.toNat < l.length
  · rw [List.getD_eq_getElem?_getD, List.getElem?_eq_getElem hi]; exact h _ (List.getElem_mem hi)
  · rw [List.getD_eq_getElem?_getD, List.getElem?_eq_none (by omega)]; simp
theorem drop_cons {α : Type} {l : List α} {i : Nat} (h : i < l.length) : l.drop i = l[i] :: l.drop (i + 1) := List.drop_eq_getElem_cons h
/-! ### the laws' own words on bytes -/
theorem eqByteS_l0 (a b : List Int) (hl : a.length = b.length) (hb : a.length ≤ 4611686018427387904) :
    ∀ (d i : Nat), a.length - i = d → i ≤ a.length → Ev (fun k => laws_eqByteS.l0 k a b (i : Int)) (decide (a.drop i = b.drop i)) := by
  intro d
  induction d with
  | zero =>
    intro i hd hi
    refine Ev_succ ?_
    simp only [laws_eqByteS.l0]
    simp only [if_neg (show ¬ (i : Int) < (a.length : Int) by omega)]
    exact Ev_cast (Ev.now _) (by rw [List.drop_eq_nil_of_le (by omega), List.drop_eq_nil_of_le (by omega)]; simp)
  | succ d ih =>
    intro i hd hi
    refine Ev_succ ?_
    simp only [laws_eqByteS.l0]
    simp only [if_pos (show (i : Int) < (a.length : Int) by omega), if_pos (show 0 ≤ (i : Int) by omega), if_pos (show (i : Int) < (b.length : Int) by omega)]
    rw [rd_lt (by omega), rd_lt (by omega), w64 (by omega) (by omega), drop_cons (l := a) (by omega), drop_cons (l := b) (i := i) (by omega)]
    by_cases e : a[i]'(by omega) = b[i]'(by omega)
    · simp only [if_pos e]
      exact Ev_cast (ih (i + 1) (by omega) (by omega)) (decide_eq_decide.2 (by rw [List.cons.injEq]; exact ⟨fun h => ⟨e, h⟩, fun h => h.2⟩))
    · simp only [if_neg e]
      exact Ev_cast (Ev.now _) (Eq.symm (decide_eq_false (by rw [List.cons.injEq]; exact fun h => e h.1)))
theorem eqByteS_ev (a b : List Int) (ha : a.length ≤ 4611686018427387904) : Ev (fun k => laws_eqByteS.f k a b) (decide (a = b)) := by
  unfold laws_eqByteS.f
  by_cases h : a.length = b.length
  · simp only [if_pos (show (a.length : Int) = (b.length : Int) by omega)]
    exact eqByteS_l0 a b h ha a.length 0 (by omega) (by omega)
  · simp only [if_neg (show ¬ (a.length : Int) = (b.length : Int) by omega)]
    exact Ev_cast (Ev.now _) (by simp; intro e; exact h (by rw [e]))
theorem eqByteS_same (a b : List Int) (ha : a.length ≤ 4611686018427387904) (e : a = b) : Ev (fun k => laws_eqByteS.f k a b) true := Ev_cast (eqByteS_ev a b ha) (by simp [e])
theorem toByteS_l0 (l : List Int) : ∀ (d i : Nat) (o : List Int), l.length - i = d → i ≤ l.length → l.length ≤ 1152921504606846976 → o.length = l.length → o.take i = l.take i →
    Ev (fun k => laws_toByteS.l0 k l o (i : Int)) l := by
  intro d
  induction d with
  | zero =>
    intro i o hd hi hl ho ht
    refine Ev_succ ?_
    simp only [laws_toByteS.l0]
    simp only [if_neg (show ¬ (i : Int) < (l.length : Int) by omega)]
    exact Ev_cast (Ev.now _) (by rw [List.take_of_length_le (by omega), List.take_of_length_le (by omega)] at ht; exact ht)
  | succ d ih =>
    intro i o hd hi hl ho ht
    refine Ev_succ ?_
    simp only [laws_toByteS.l0]
    simp only [if_pos (show (i : Int) < (l.length : Int) by omega), if_pos (show 0 ≤ (i : Int) by omega), if_pos (show (i : Int) < (o.length : Int) by omega)]
    rw [rd_lt (by omega), w64 (by omega) (by omega)]
    refine ih (i + 1) _ (by omega) (by omega) hl (by simpa using ho) ?_
    apply List.ext_getElem?
    intro j
    rw [List.getElem?_take, List.getElem?_take]
    by_cases h1 : j < i
    · have := congrArg (fun x => x[j]?) ht
      simp only [List.getElem?_take, if_pos h1] at this
      rw [if_pos (by omega), if_pos (by omega), List.getElem?_set]
      simp only [Int.toNat_natCast]
      rw [if_neg (by omega), this]
    · by_cases h2 : j = i
      · subst h2
        rw [if_pos (by omega), if_pos (by omega)]
        simp [show j < l.length by omega, show j < o.length by omega]
      · rw [if_neg (by omega), if_neg (by omega)]
theorem toByteS_ev (l : List Int) (hl : l.length ≤ 281474976710656) : Ev (fun k => laws_toByteS.f k l) l := by
  unfold laws_toByteS.f
  simp only [if_pos (show 0 ≤ (l.length : Int) by omega), Int.toNat_natCast, if_pos hl]
  exact toByteS_l0 l l.length 0 _ (by omega) (by omega) (by omega) (by simp) (by simp)
theorem within_eq (a b c : Int) : impl_within.f a b c = some (decide (b ≤ a ∧ a ≤ c)) := by
  unfold impl_within.f
  by_cases h : a ≥ b
  · rw [if_pos h]; simp; intro; omega
  · rw [if_neg h]; simp; intro; omega
theorem l1In_eq (a b c : Int) : spec_l1In.f a b c = some (decide (b ≤ a ∧ a ≤ c)) := by
  unfold spec_l1In.f
  by_cases h : a ≥ b
  · rw [if_pos h]; simp; intro; omega
  · rw [if_neg h]; simp; intro; omega
theorem wraps_u64' (n : Int) (h₀ : 0 ≤ n) (h₁ : n < 2 ^ 64) : IntKind.u64.wrap n = n := by rw [wrap_u64]; omega
def beVal (l : List Int) : Nat := l.foldl (fun n x => n * 256 + x.toNat) 0
theorem beVal_snoc (p : List Int) (c : Int) : beVal (p ++ [c]) = beVal p * 256 + c.toNat := by simp [beVal]
theorem beVal_lt : ∀ (p : List Int), Bytes p → beVal p < 256 ^ p.length := by
  intro p
  have key : ∀ (q : List Int) (n m : Nat), Bytes q → n < 256 ^ m → q.foldl (fun n x => n * 256 + x.toNat) n < 256 ^ (m + q.length) := by
    intro q
    induction q with
    | nil => intro n m _ h; simpa using h
    | cons a q ih =>
      intro n m hb h
      have ha := hb a (by simp)
      have := ih (n * 256 + a.toNat) (m + 1) (fun x hx => hb x (by simp [hx])) (by rw [Nat.pow_succ]; omega)
      simp only [List.foldl_cons, List.length_cons]
      rwa [show m + (q.length + 1) = m + 1 + q.length by omega]
  intro hb
  have := key p 0 0 hb (by simp)
  simpa [beVal] using this
theorem pow256_le {i j : Nat} (h : i ≤ j) : (256 : Nat) ^ i ≤ 256 ^ j := Nat.pow_le_pow_right (by decide) h
/-- What ReadFixed tells. -/
def readFixed (l : List Int) (a m : Int) : Int × Bool := if 1 ≤ m ∧ m ≤ 8 ∧ 0 ≤ a ∧ a + m ≤ l.length ∧ beVal ((l.drop a.toNat).take m.toNat) < 9223372036854775808 then ((beVal ((l.drop a.toNat).take m.toNat) : Int), true) else (0, false)
theorem or_i64 (v x : Nat) (hv : v < 72057594037927936) (hx : x < 256) : Go.bits .or .i64 (wrap64 ((v : Int) * 256)) (wrap64 (x : Int)) = wrap64 ((v * 256 + x : Nat) : Int) := by
  have e1 : BitVec.ofInt 64 (wrap64 ((v : Int) * 256)) = BitVec.ofNat 64 (v * 256) := by
    apply BitVec.eq_of_toNat_eq
    rw [BitVec.toNat_ofInt, BitVec.toNat_ofNat]
    unfold wrap64; omega
  have e2 : BitVec.ofInt 64 (wrap64 (x : Int)) = BitVec.ofNat 64 x := by
    apply BitVec.eq_of_toNat_eq
    rw [BitVec.toNat_ofInt, BitVec.toNat_ofNat]
    unfold wrap64; omega
  have e3 : (BitVec.ofNat 64 (v * 256) ||| BitVec.ofNat 64 x).toNat = v * 256 + x := by
    rw [BitVec.toNat_or, BitVec.toNat_ofNat, BitVec.toNat_ofNat, Nat.mod_eq_of_lt (by omega), Nat.mod_eq_of_lt (by omega)]
    have := Nat.two_pow_add_eq_or_of_lt (i := 8) (b := x) (by omega) v
    rw [show v * 256 = 2 ^ 8 * v by omega, ← this]
  unfold Go.bits
  show IntKind.i64.wrap (((BitVec.ofInt 64 (wrap64 ((v : Int) * 256)) ||| BitVec.ofInt 64 (wrap64 (x : Int))).toNat : Nat) : Int) = _
  rw [e1, e2, e3, IntKind.wrap_i64, wrap64]
theorem or_u64 (v x : Nat) (hv : v < 72057594037927936) (hx : x < 256) : Go.bits .or .u64 (IntKind.u64.wrap ((v : Int) * 256)) (IntKind.u64.wrap (x : Int)) = ((v * 256 + x : Nat) : Int) := by
  rw [wraps_u64' _ (by omega) (by omega), wraps_u64' _ (by omega) (by omega)]
  rw [bits_join .u64 64 (by decide) wraps_u64' 8 _ _ (by omega) (by omega) (by omega) (by omega) (by omega) (by omega)]
  omega
theorem spec_l1Number_l0 : ∀ (t p : List Int), Bytes (p ++ t) → (p ++ t).length ≤ 8 → Ev (fun k => spec_l1Number.l0 k (wrap64 (beVal p)) (p ++ t) ((p ++ t).length : Int) (p.length : Int)) (wrap64 (beVal (p ++ t))) := by
  intro t
  induction t with
  | nil =>
    intro p hb hl
    refine Ev_succ ?_
    simp only [spec_l1Number.l0, List.append_nil, Int.lt_irrefl, if_false]
    exact Ev.now _
  | cons c t ih =>
    intro p hb hl
    refine Ev_succ ?_
    have hpb : Bytes p := fun x hx => hb x (List.mem_append_left _ hx)
    have hcb := hb c (by simp)
    have hv := beVal_lt p hpb
    have hl' : p.length ≤ 7 := by simp at hl; omega
    have hv' : beVal p < 256 ^ 7 := Nat.lt_of_lt_of_le hv (pow256_le hl')
    have hll : (p ++ c :: t).length = p.length + t.length + 1 := by simp; omega
    have hrd : rd (p ++ c :: t) (p.length : Int) = c := by
      rw [rd_lt (by omega)]; simp
    simp only [spec_l1Number.l0]
    simp only [if_pos (show (p.length : Int) < ((p ++ c :: t).length : Int) by omega), if_pos (show 0 ≤ (p.length : Int) by omega), hrd]
    rw [w64 (n := (p.length : Int) + 1) (by omega) (by omega), w64 (n := ((beVal p : Nat) : Int)) (by omega) (by omega)]
    obtain ⟨C, rfl⟩ := Int.eq_ofNat_of_zero_le hcb.1
    rw [or_i64 _ _ (by omega) (by omega)]
    have e : p ++ (C : Int) :: t = (p ++ [(C : Int)]) ++ t := by simp
    have e2 : beVal (p ++ [(C : Int)]) = beVal p * 256 + C := by rw [beVal_snoc]; simp
    rw [e, show (p.length : Int) + 1 = ((p ++ [(C : Int)]).length : Int) by simp, ← e2]
    exact ih _ (by rw [← e]; exact hb) (by rw [← e]; exact hl)
theorem spec_l1Number_ev (l : List Int) (hb : Bytes l) (hl : l.length ≤ 8) : Ev (fun k => spec_l1Number.f k l) (wrap64 (beVal l)) := by
  unfold spec_l1Number.f
  have := spec_l1Number_l0 l [] (by simpa using hb) (by simpa using hl)
  simpa [beVal, w64 (n := 0) (by omega) (by omega)] using this
theorem spec_ReadFixed_ev (l : List Int) (hb : Bytes l) (hl : l.length ≤ 281474976710656) (a m : Int) (ha : -9223372036854775808 ≤ a ∧ a ≤ 9223372036854775807) (hm : -9223372036854775808 ≤ m ∧ m ≤ 9223372036854775807) :
    Ev (fun k => spec_ReadFixed.f k l a m) (readFixed l a m) := by
  have bad : Ev (fun k => spec_ReadFixed.j0 k l a m true) (0, false) := by
    refine Ev_succ ?_
    simp only [spec_ReadFixed.j0, if_true]
    exact Ev.now _
  unfold spec_ReadFixed.f readFixed
  refine Ev.bind (Ev_some (l1In_eq _ _ _)) ?_
  by_cases h : 1 ≤ m ∧ m ≤ 8
  · rw [decide_eq_true h]
    simp only [if_true]
    by_cases h0 : a < 0
    · simp only [if_pos h0]; rw [if_neg (by omega)]; exact bad
    simp only [if_neg h0]
    by_cases h1 : m > (l.length : Int)
    · simp only [if_pos h1]; rw [if_neg (by omega)]; exact bad
    simp only [if_neg h1]
    rw [w64 (by omega) (by omega)]
    by_cases h2 : a > (l.length : Int) - m
    · rw [decide_eq_true h2, if_neg (by omega)]; exact bad
    rw [decide_eq_false h2]
    refine Ev_succ ?_
    simp only [spec_ReadFixed.j0, Bool.false_eq_true, if_false]
    rw [w64 (by omega) (by omega)]
    simp only [if_pos (show 0 ≤ a by omega), if_pos (show a ≤ a + m by omega), if_pos (show a + m ≤ (l.length : Int) by omega)]
    have hcut : (l.take (a + m).toNat).drop a.toNat = (l.drop a.toNat).take m.toNat := by
      rw [show (a + m).toNat = a.toNat + m.toNat by omega, ← List.take_drop]
    rw [hcut]
    have hcb : Bytes ((l.drop a.toNat).take m.toNat) := (hb.drop _).take _
    have hcl : ((l.drop a.toNat).take m.toNat).length = m.toNat := by simp; omega
    have hv := beVal_lt _ hcb
    rw [hcl] at hv
    have hv' : beVal ((l.drop a.toNat).take m.toNat) < 256 ^ 8 := Nat.lt_of_lt_of_le hv (pow256_le (by omega))
    refine Ev.bind (spec_l1Number_ev _ hcb (by omega)) ?_
    generalize beVal ((l.drop a.toNat).take m.toNat) = V at hv' ⊢
    by_cases h3 : V < 9223372036854775808
    · rw [w64 (by omega) (by omega), if_pos (show 1 ≤ m ∧ m ≤ 8 ∧ 0 ≤ a ∧ a + m ≤ (l.length : Int) ∧ V < 9223372036854775808 from ⟨h.1, h.2, by omega, by omega, h3⟩)]
      simp only [if_neg (show ¬ (V : Int) < 0 by omega)]
      exact Ev.now _
    · rw [if_neg (show ¬ (1 ≤ m ∧ m ≤ 8 ∧ 0 ≤ a ∧ a + m ≤ (l.length : Int) ∧ V < 9223372036854775808) from fun hh => h3 hh.2.2.2.2)]
      simp only [if_pos (show wrap64 (V : Int) < 0 by unfold wrap64; omega)]
      exact Ev.now _
  · rw [decide_eq_false h]
    simp only [Bool.false_eq_true, if_false]
    rw [if_neg (by omega)]
    exact bad
theorem impl_ReadFixed_l0 : ∀ (t p : List Int), Bytes (p ++ t) → (p ++ t).length ≤ 8 → Ev (fun k => impl_ReadFixed.l0 k (beVal p) (p ++ t) ((p ++ t).length : Int) (p.length : Int)) (if beVal (p ++ t) < 9223372036854775808 then ((beVal (p ++ t) : Int), true) else (0, false)) := by
  intro t
  induction t with
  | nil =>
    intro p hb hl
    refine Ev_succ ?_
    simp only [impl_ReadFixed.l0, List.append_nil, Int.lt_irrefl, if_false]
    by_cases h : beVal p < 9223372036854775808
    · rw [if_pos h, w64 (by omega) (by omega)]
      simp only [if_pos (show (beVal p : Int) / 9223372036854775808 = 0 by omega)]
      exact Ev.now _
    · rw [if_neg h]
      simp only [if_neg (show ¬ (beVal p : Int) / 9223372036854775808 = 0 by omega)]
      exact Ev.now _
  | cons c t ih =>
    intro p hb hl
    refine Ev_succ ?_
    have hpb : Bytes p := fun x hx => hb x (List.mem_append_left _ hx)
    have hcb := hb c (by simp)
    have hv := beVal_lt p hpb
    have hl' : p.length ≤ 7 := by simp at hl; omega
    have hv' : beVal p < 256 ^ 7 := Nat.lt_of_lt_of_le hv (pow256_le hl')
    have hll : (p ++ c :: t).length = p.length + t.length + 1 := by simp; omega
    have hrd : rd (p ++ c :: t) (p.length : Int) = c := by
      rw [rd_lt (by omega)]; simp
    simp only [impl_ReadFixed.l0]
    simp only [if_pos (show (p.length : Int) < ((p ++ c :: t).length : Int) by omega), if_pos (show 0 ≤ (p.length : Int) by omega), hrd]
    rw [w64 (n := (p.length : Int) + 1) (by omega) (by omega)]
    obtain ⟨C, rfl⟩ := Int.eq_ofNat_of_zero_le hcb.1
    rw [or_u64 _ _ (by omega) (by omega)]
    have e : p ++ (C : Int) :: t = (p ++ [(C : Int)]) ++ t := by simp
    have e2 : beVal (p ++ [(C : Int)]) = beVal p * 256 + C := by rw [beVal_snoc]; simp
    rw [e, show (p.length : Int) + 1 = ((p ++ [(C : Int)]).length : Int) by simp, ← e2]
    exact ih _ (by rw [← e]; exact hb) (by rw [← e]; exact hl)
theorem impl_ReadFixed_ev (l : List Int) (hb : Bytes l) (hl : l.length ≤ 281474976710656) (a m : Int) (ha : -9223372036854775808 ≤ a ∧ a ≤ 9223372036854775807) (hm : -9223372036854775808 ≤ m ∧ m ≤ 9223372036854775807) :
    Ev (fun k => impl_ReadFixed.f k l a m) (readFixed l a m) := by
  have bad : Ev (fun k => impl_ReadFixed.j0 k l a m true) (0, false) := by
    refine Ev_succ ?_
    simp only [impl_ReadFixed.j0, if_true]
    exact Ev.now _
  unfold impl_ReadFixed.f readFixed
  refine Ev.bind (Ev_some (within_eq _ _ _)) ?_
  by_cases h : 1 ≤ m ∧ m ≤ 8
  · rw [decide_eq_true h]
    simp only [if_true]
    refine Ev.bind (Ev_some (within_eq _ _ _)) ?_
    rw [w64 (by omega) (by omega)]
    by_cases h2 : 0 ≤ a ∧ a ≤ (l.length : Int) - m
    · rw [decide_eq_true h2, Bool.not_true]
      refine Ev_succ ?_
      simp only [impl_ReadFixed.j0, Bool.false_eq_true, if_false]
      rw [w64 (by omega) (by omega)]
      simp only [if_pos (show 0 ≤ a by omega), if_pos (show a ≤ a + m by omega), if_pos (show a + m ≤ (l.length : Int) by omega)]
      have hcut : (l.take (a + m).toNat).drop a.toNat = (l.drop a.toNat).take m.toNat := by
        rw [show (a + m).toNat = a.toNat + m.toNat by omega, ← List.take_drop]
      rw [hcut]
      have hcb : Bytes ((l.drop a.toNat).take m.toNat) := (hb.drop _).take _
      have hcl : ((l.drop a.toNat).take m.toNat).length = m.toNat := by simp; omega
      have := impl_ReadFixed_l0 ((l.drop a.toNat).take m.toNat) [] (by simpa using hcb) (by simp only [List.nil_append]; omega)
      simp only [List.nil_append, List.length_nil, Int.natCast_zero] at this
      refine Ev_cast this ?_
      by_cases h3 : beVal ((l.drop a.toNat).take m.toNat) < 9223372036854775808
      · rw [if_pos h3, if_pos ⟨h.1, h.2, by omega, by omega, h3⟩]
      · rw [if_neg h3, if_neg (fun hh => h3 hh.2.2.2.2)]
    · rw [decide_eq_false h2, Bool.not_false, if_neg (by omega)]
      exact bad
  · rw [decide_eq_false h]
    simp only [Bool.false_eq_true, if_false]
    rw [if_neg (by omega)]
    exact bad
theorem FnExactReadFixed : laws_FnExactReadFixed.Pure := by
  intro l a m h3 h4 h5
  have hb := Bytes.wf h3.2
  have ha := wf_i64 h4
  have hm := wf_i64 h5
  refine Ev.rounds ?_
  unfold laws_FnExactReadFixed.f
  by_cases hbig : (l.length : Int) > 1048576
  · simp only [if_pos hbig]; exact Ev.now _
  simp only [if_neg hbig]
  refine Ev.bind (toByteS_ev l (by omega)) ?_
  refine Ev.bind (spec_ReadFixed_ev l hb (by omega) a m ha hm) ?_
  refine Ev.bind (toByteS_ev l (by omega)) ?_
  refine Ev.bind (impl_ReadFixed_ev l hb (by omega) a m ha hm) ?_
  simp only [if_true, bne_self_eq_false]
  refine Ev_succ ?_
  simp only [laws_FnExactReadFixed.j0, Bool.false_eq_true, if_false]
  refine Ev.bind (toByteS_ev l (by omega)) ?_
  refine Ev.bind (eqByteS_same _ _ (by omega) rfl) ?_
  simp only [if_true]
  exact Ev.now _
end Go.Proofs.Ytmlbbmdhnnpgbaa.Pure
