/- The law FnExactReadVar answers true, for all bytes and places. -/
import Derived.Test.YtmlbbmdhnnpgbaaPFnExactReadVarx2
import Derived.Test.YtmlbbmdhnnpgbaaPFnExactReadVarx2
set_option linter.unusedVariables false
set_option linter.unusedSimpArgs false
namespace Go.Proofs.Ytmlbbmdhnnpgbaa.Pure
open Go.RowKit Go.Proofs.Ytmlbbmdhnnpgbaa.PFnExactReadVar Go.Proofs.YtmlbbmdhnnpgbaaW Go.Proofs.YtmlbbmdhnnpgbaaW.PrintWords Go.Proofs.YtmlbbmdhnnpgbaaW.PrintLast Go.Proofs.YtmlbbmdhnnpgbaaW.PrintMore
/-! ### base: rounds, numbers -/
theorem Ev_succ {α : Type} {g : Nat → Option α} {r : α} (h : Ev (fun k => g (k + 1)) r) : Ev g r := Ev.step (fun _ => rfl) h
theorem Ev_some {α : Type} {o : Option α} {r : α} (h : o = some r) : Ev (fun _ => o) r := ⟨0, fun _ _ => h⟩
theorem Ev_cast {α : Type} {g : Nat → Option α} {r q : α} (h : Ev g r) (e : r = q) : Ev g q := e ▸ h
theorem w64 {n : Int} (h : -9223372036854775808 ≤ n) (h' : n ≤ 9223372036854775807) : wrap64 n = n := by unfold wrap64; omega
theorem wf_i64 {n : Int} (h : (Lit.int .i64 n).wf = true) : -9223372036854775808 ≤ n ∧ n ≤ 9223372036854775807 := by
  simp only [Lit.wf, IntKind.min, IntKind.max, IntKind.signed, IntKind.bits, Bool.and_eq_true, decide_eq_true_eq, if_true] at h
  omega
theorem wf_u64 {n : Int} (h : (Lit.int .u64 n).wf = true) : 0 ≤ n ∧ n ≤ 18446744073709551615 := by
  simp only [Lit.wf, IntKind.min, IntKind.max, IntKind.signed, IntKind.bits, Bool.and_eq_true, decide_eq_true_eq, if_true] at h
  simp at h
  omega
theorem wf_u8 {n : Int} (h : (Lit.int .u8 n).wf = true) : 0 ≤ n ∧ n ≤ 255 := by
  simp only [Lit.wf, IntKind.min, IntKind.max, IntKind.signed, IntKind.bits, Bool.and_eq_true, decide_eq_true_eq, if_true] at h
  simp at h
  omega
theorem wrap_u64 (n : Int) : IntKind.u64.wrap n = n % 18446744073709551616 := by simp [IntKind.wrap, IntKind.bits, IntKind.signed]
theorem wrap_u32 (n : Int) : IntKind.u32.wrap n = n % 4294967296 := by simp [IntKind.wrap, IntKind.bits, IntKind.signed]
/-- A list of bytes. -/
def Bytes (l : List Int) : Prop := ∀ x ∈ l, 0 ≤ x ∧ x ≤ 255
theorem Bytes.wf {l : List Int} (h : ∀ x ∈ l, (Lit.int .u8 x).wf = true) : Bytes l := fun x hx => wf_u8 (h x hx)
theorem Bytes.nil : Bytes [] := fun x hx => by cases hx
theorem Bytes.app {a b : List Int} (h : Bytes a) (k : Bytes b) : Bytes (a ++ b) := fun x hx => by
  rcases List.mem_append.1 hx with h' | h'
  · exact h x h'
  · exact k x h'
theorem Bytes.one {x : Int} (h : 0 ≤ x) (h' : x ≤ 255) : Bytes [x] := fun y hy => (List.mem_singleton.1 hy) ▸ ⟨h, h'⟩
theorem Bytes.sub {a b : List Int} (h : Bytes a) (k : ∀ x ∈ b, x ∈ a) : Bytes b := fun x hx => h x (k x hx)
theorem Bytes.take {a : List Int} (h : Bytes a) (n : Nat) : Bytes (a.take n) := h.sub fun _ hx => List.mem_of_mem_take hx
theorem Bytes.drop {a : List Int} (h : Bytes a) (n : Nat) : Bytes (a.drop n) := h.sub fun _ hx => List.mem_of_mem_drop hx
theorem rd_lt {l : List Int} {i : Nat} (h : i < l.length) : rd l (i : Int) = l[i] := by simp [rd, h]
theorem Bytes.rd {l : List Int} (h : Bytes l) (i : Int) : 0 ≤ rd l i ∧ rd l i ≤ 255 := by
  unfold PrintWords.rd
  by_cases hi : i.toNat < l.length
  · rw [List.getD_eq_getElem?_getD, List.getElem?_eq_getElem hi]; exact h _ (List.getElem_mem hi)
  · rw [List.getD_eq_getElem?_getD, List.getElem?_eq_none (by omega)]; simp
theorem drop_cons {α : Type} {l : List α} {i : Nat} (h : i < l.length) : l.drop i = l[i] :: l.drop (i + 1) := List.drop_eq_getElem_cons h
/-! ### the laws' own words on bytes -/
theorem eqByteS_l0 (a b : List Int) (hl : a.length = b.length) (hb : a.length ≤ 4611686018427387904) :
    ∀ (d i : Nat), a.length - i = d → i ≤ a.length → Ev (fun k => laws_eqByteS.l0 k a b (i : Int)) (decide (a.drop i = b.drop i)) := by
  intro d
  induction d with
  | zero =>
    intro i hd hi
    refine Ev_succ ?_
    simp only [laws_eqByteS.l0]
    simp only [if_neg (show ¬ (i : Int) < (a.length : Int) by omega)]
    exact Ev_cast (Ev.now _) (by rw [List.drop_eq_nil_of_le (by omega), List.drop_eq_nil_of_le (by omega)]; simp)
  | succ d ih =>
    intro i hd hi
    refine Ev_succ ?_
    simp only [laws_eqByteS.l0]
    simp only [if_pos (show (i : Int) < (a.length : Int) by omega), if_pos (show 0 ≤ (i : Int) by omega), if_pos (show (i : Int) < (b.length : Int) by omega)]
    rw [rd_lt (by omega), rd_lt (by omega), w64 (by omega) (by omega), drop_cons (l := a) (by omega), drop_cons (l := b) (i := i) (by omega)]
    by_cases e : a[i]'(by omega) = b[i]'(by omega)
    · simp only [if_pos e]
      exact Ev_cast (ih (i + 1) (by omega) (by omega)) (decide_eq_decide.2 (by rw [List.cons.injEq]; exact ⟨fun h => ⟨e, h⟩, fun h => h.2⟩))
    · simp only [if_neg e]
      exact Ev_cast (Ev.now _) (Eq.symm (decide_eq_false (by rw [List.cons.injEq]; exact fun h => e h.1)))
theorem eqByteS_ev (a b : List Int) (ha : a.length ≤ 4611686018427387904) : Ev (fun k => laws_eqByteS.f k a b) (decide (a = b)) := by
  unfold laws_eqByteS.f
  by_cases h : a.length = b.length
  · simp only [if_pos (show (a.length : Int) = (b.length : Int) by omega)]
    exact eqByteS_l0 a b h ha a.length 0 (by omega) (by omega)
  · simp only [if_neg (show ¬ (a.length : Int) = (b.length : Int) by omega)]
    exact Ev_cast (Ev.now _) (by simp; intro e; exact h (by rw [e]))
theorem eqByteS_same (a b : List Int) (ha : a.length ≤ 4611686018427387904) (e : a = b) : Ev (fun k => laws_eqByteS.f k a b) true := Ev_cast (eqByteS_ev a b ha) (by simp [e])
theorem toByteS_l0 (l : List Int) : ∀ (d i : Nat) (o : List Int), l.length - i = d → i ≤ l.length → l.length ≤ 1152921504606846976 → o.length = l.length → o.take i = l.take i →
    Ev (fun k => laws_toByteS.l0 k l o (i : Int)) l := by
  intro d
  induction d with
  | zero =>
    intro i o hd hi hl ho ht
    refine Ev_succ ?_
    simp only [laws_toByteS.l0]
    simp only [if_neg (show ¬ (i : Int) < (l.length : Int) by omega)]
    exact Ev_cast (Ev.now _) (by rw [List.take_of_length_le (by omega), List.take_of_length_le (by omega)] at ht; exact ht)
  | succ d ih =>
    intro i o hd hi hl ho ht
    refine Ev_succ ?_
    simp only [laws_toByteS.l0]
    simp only [if_pos (show (i : Int) < (l.length : Int) by omega), if_pos (show 0 ≤ (i : Int) by omega), if_pos (show (i : Int) < (o.length : Int) by omega)]
    rw [rd_lt (by omega), w64 (by omega) (by omega)]
    refine ih (i + 1) _ (by omega) (by omega) hl (by simpa using ho) ?_
    apply List.ext_getElem?
    intro j
    rw [List.getElem?_take, List.getElem?_take]
    by_cases h1 : j < i
    · have := congrArg (fun x => x[j]?) ht
      simp only [List.getElem?_take, if_pos h1] at this
      rw [if_pos (by omega), if_pos (by omega), List.getElem?_set]
      simp only [Int.toNat_natCast]
      rw [if_neg (by omega), this]
    · by_cases h2 : j = i
      · subst h2
        rw [if_pos (by omega), if_pos (by omega)]
        simp [show j < l.length by omega, show j < o.length by omega]
      · rw [if_neg (by omega), if_neg (by omega)]
theorem toByteS_ev (l : List Int) (hl : l.length ≤ 281474976710656) : Ev (fun k => laws_toByteS.f k l) l := by
  unfold laws_toByteS.f
  simp only [if_pos (show 0 ≤ (l.length : Int) by omega), Int.toNat_natCast, if_pos hl]
  exact toByteS_l0 l l.length 0 _ (by omega) (by omega) (by omega) (by simp) (by simp)
/-! ### PutVar -/
def putVar (n : Nat) : List Int := if 127 < n then ((n % 128 + 128 : Nat) : Int) :: putVar (n / 128) else [(n : Int)]
termination_by n
decreasing_by omega
theorem putVar_small {n : Nat} (h : n ≤ 127) : putVar n = [(n : Int)] := by rw [putVar, if_neg (by omega)]
theorem putVar_big {n : Nat} (h : 127 < n) : putVar n = ((n % 128 + 128 : Nat) : Int) :: putVar (n / 128) := by rw [putVar, if_pos h]
theorem putVar_length_le : ∀ (m n : Nat), n < 128 ^ (m + 1) → (putVar n).length ≤ m + 1 := by
  intro m
  induction m with
  | zero => intro n h; rw [putVar_small (by simpa using Nat.le_of_lt_succ h)]; simp
  | succ m ih =>
    intro n h
    by_cases hn : 127 < n
    · rw [putVar_big hn]
      have := ih (n / 128) (by rw [Nat.div_lt_iff_lt_mul (by omega), ← Nat.pow_succ]; exact h)
      simp; omega
    · rw [putVar_small (by omega)]; simp
theorem putVar_length_64 {n : Nat} (h : n ≤ 18446744073709551615) : (putVar n).length ≤ 10 := putVar_length_le 9 n (by omega)
theorem putVar_bytes : ∀ n, Bytes (putVar n) := by
  intro n
  induction n using Nat.strongRecOn with
  | ind n ih =>
    by_cases hn : 127 < n
    · rw [putVar_big hn]
      intro x hx
      rcases List.mem_cons.1 hx with rfl | hx
      · omega
      · exact ih _ (by omega) x hx
    · rw [putVar_small (by omega)]; exact Bytes.one (by omega) (by omega)
theorem putVar_ne_nil (n : Nat) : putVar n ≠ [] := by
  by_cases hn : 127 < n
  · rw [putVar_big hn]; simp
  · rw [putVar_small (by omega)]; simp
theorem putVar_pos (n : Nat) : 1 ≤ (putVar n).length := by
  have := putVar_ne_nil n
  cases h : putVar n with
  | nil => exact absurd h this
  | cons _ _ => simp
theorem or128 : ∀ x : Fin 256, Go.bits .or .u8 (x.val : Int) 128 = ((x.val % 128 + 128 : Nat) : Int) := by decide +kernel
theorem or128_nat (n : Nat) : Go.bits .or .u8 ((n : Int) % 256) 128 = ((n % 128 + 128 : Nat) : Int) := by
  have := or128 ⟨n % 256, by omega⟩
  simp only at this
  rw [show ((n : Int) % 256) = ((n % 256 : Nat) : Int) by omega, this]
  omega
theorem impl_PutVar_l0 : ∀ (n : Nat) (acc : List Int), acc.length + (putVar n).length ≤ 140737488355328 → Ev (fun k => impl_PutVar.l0 k (n : Int) acc) (acc ++ putVar n) := by
  intro n
  induction n using Nat.strongRecOn with
  | ind n ih =>
    intro acc h
    refine Ev_succ ?_
    simp only [impl_PutVar.l0]
    have hp := putVar_pos n
    by_cases hn : 127 < n
    · simp only [if_pos (show (n : Int) > 127 by omega), if_pos (show acc.length < 140737488355328 by omega)]
      rw [or128_nat, show (n : Int) / 128 = ((n / 128 : Nat) : Int) by omega]
      rw [putVar_big hn] at h
      refine Ev_cast (ih (n / 128) (by omega) _ (by simp at h ⊢; omega)) ?_
      rw [putVar_big hn]; simp
    · simp only [if_neg (show ¬ (n : Int) > 127 by omega), if_pos (show acc.length < 140737488355328 by omega)]
      rw [putVar_small (by omega), show (n : Int) % 256 = n by omega]
      exact Ev.now _
theorem impl_PutVar_ev (n : Nat) (h : n ≤ 18446744073709551615) : Ev (fun k => impl_PutVar.f k (n : Int)) (putVar n) := by
  unfold impl_PutVar.f
  have := putVar_length_64 h
  exact Ev_cast (impl_PutVar_l0 n [] (by simp; omega)) (by simp)
/-! ### texts as lists of bytes -/
theorem pw_toList_loop (s : ByteArray) : ∀ (d i : Nat) (r : List UInt8), s.size - i = d → i ≤ s.size → ByteArray.toList.loop s i r = r.reverse ++ s.data.toList.drop i := by
  intro d
  induction d with
  | zero =>
    intro i r hd hi
    rw [ByteArray.toList.loop, if_neg (by omega), List.drop_eq_nil_of_le (by simp; show s.data.size ≤ i; have : s.size = s.data.size := rfl; omega)]
    simp
  | succ d ih =>
    intro i r hd hi
    have hs : s.size = s.data.size := rfl
    rw [ByteArray.toList.loop, if_pos (by omega), ih (i + 1) _ (by omega) (by omega)]
    have : s.data.toList.drop i = s.get! i :: s.data.toList.drop (i + 1) := by
      rw [List.drop_eq_getElem_cons (by simp; omega)]
      congr 1
      simp [ByteArray.get!]
      rw [getElem!_pos s.data i (by omega)]
    rw [this]; simp
theorem toList_data (s : ByteArray) : s.toList = s.data.toList := by
  unfold ByteArray.toList
  rw [pw_toList_loop s s.size 0 [] (by omega) (by omega)]
  simp
theorem strOfNums_list (l : List Int) : (strOfNums l).toList = l.map fun n => UInt8.ofNat n.toNat := by
  rw [toList_data]; simp [strOfNums]
theorem bytes_map_inj : ∀ (a b : List Int), Bytes a → Bytes b → (a.map fun n => UInt8.ofNat n.toNat) = (b.map fun n => UInt8.ofNat n.toNat) → a = b := by
  intro a
  induction a with
  | nil => intro b _ _ h; cases b with
    | nil => rfl
    | cons _ _ => simp at h
  | cons x a ih =>
    intro b ha hb h
    cases b with
    | nil => simp at h
    | cons y b =>
      simp only [List.map_cons, List.cons.injEq] at h
      have h1 := ha x (by simp)
      have h2 := hb y (by simp)
      have h3 := congrArg UInt8.toNat h.1
      simp only [UInt8.toNat_ofNat'] at h3
      rw [ih b (fun z hz => ha z (by simp [hz])) (fun z hz => hb z (by simp [hz])) h.2]
      congr 1
      omega
theorem strOfNums_eq (a b : List Int) (ha : Bytes a) (hb : Bytes b) : ((strOfNums a).toList == (strOfNums b).toList) = decide (a = b) := by
  rw [strOfNums_list, strOfNums_list]
  by_cases h : a = b
  · subst h; simp
  · rw [decide_eq_false h, beq_eq_false_iff_ne]
    exact fun e => h (bytes_map_inj a b ha hb e)
theorem within_eq (a b c : Int) : impl_within.f a b c = some (decide (b ≤ a ∧ a ≤ c)) := by
  unfold impl_within.f
  by_cases h : a ≥ b
  · rw [if_pos h]; simp; intro; omega
  · rw [if_neg h]; simp; intro; omega
theorem l1In_eq (a b c : Int) : spec_l1In.f a b c = some (decide (b ≤ a ∧ a ≤ c)) := by
  unfold spec_l1In.f
  by_cases h : a ≥ b
  · rw [if_pos h]; simp; intro; omega
  · rw [if_neg h]; simp; intro; omega
/-! ### ReadVar -/
def vval : List Int → Nat
  | [] => 0
  | c :: t => (c % 128).toNat + 128 * vval t
theorem vval_snoc (p : List Int) (c : Int) : vval (p ++ [c]) = vval p + 128 ^ p.length * (c % 128).toNat := by
  induction p with
  | nil => simp [vval]
  | cons a p ih => simp only [List.cons_append, vval, ih, List.length_cons, Nat.pow_succ]; rw [Nat.mul_add, Nat.mul_comm (128 ^ p.length) 128, Nat.mul_assoc]; omega
theorem vval_lt (p : List Int) : vval p < 128 ^ p.length := by
  induction p with
  | nil => simp [vval]
  | cons a p ih =>
    simp only [vval, List.length_cons, Nat.pow_succ]
    have : (a % 128).toNat < 128 := by omega
    omega
theorem vval_putVar : ∀ n : Nat, vval (putVar n) = n := by
  intro n
  induction n using Nat.strongRecOn with
  | ind n ih =>
    by_cases h : 127 < n
    · rw [putVar_big h]; simp only [vval]; rw [ih _ (by omega)]; omega
    · rw [putVar_small (by omega)]; simp only [vval]; omega
/-- The bytes but the last have their eighth bit set. -/
def Conts (p : List Int) : Prop := ∀ x ∈ p, 128 ≤ x ∧ x ≤ 255
theorem putVar_vval : ∀ (p : List Int) (c : Int), Conts p → 0 ≤ c → c < 128 → (p = [] ∨ c ≠ 0) → putVar (vval (p ++ [c])) = p ++ [c] := by
  intro p
  induction p with
  | nil => intro c _ h0 h1 _; rw [List.nil_append, putVar_small (by simp [vval]; omega)]; simp [vval]; omega
  | cons a p ih =>
    intro c hp h0 h1 hc
    have hc' : c ≠ 0 := by rcases hc with h | h
                           · cases h
                           · exact h
    have ha := hp a (by simp)
    have hi := ih c (fun x hx => hp x (by simp [hx])) h0 h1 (.inr hc')
    have hpos : 1 ≤ vval (p ++ [c]) := by
      rw [vval_snoc]
      have h3 : 0 < 128 ^ p.length * (c % 128).toNat := Nat.mul_pos (Nat.pow_pos (by decide)) (by omega)
      omega
    have e1 : vval (a :: (p ++ [c])) = (a % 128).toNat + 128 * vval (p ++ [c]) := rfl
    rw [List.cons_append, e1, putVar_big (by omega)]
    rw [show ((a % 128).toNat + 128 * vval (p ++ [c])) / 128 = vval (p ++ [c]) by omega, hi]
    congr 1
    omega
theorem putVar_last : ∀ (n : Nat) (p : List Int) (c : Int), putVar n = p ++ [c] → (p = [] ∨ c ≠ 0) := by
  intro n
  induction n using Nat.strongRecOn with
  | ind n ih =>
    intro p c h
    by_cases hn : 127 < n
    · rw [putVar_big hn] at h
      cases p with
      | nil => exact .inl rfl
      | cons a p =>
        rw [List.cons_append] at h
        injection h with h1 h2
        rcases ih (n / 128) (by omega) p c h2 with rfl | h3
        · refine .inr ?_
          have h4 : vval (putVar (n / 128)) = n / 128 := vval_putVar _
          rw [h2] at h4
          simp [vval] at h4
          omega
        · exact .inr h3
    · rw [putVar_small (by omega)] at h
      cases p with
      | nil => exact .inl rfl
      | cons a p =>
        have := congrArg List.length h
        simp at this
/-- What a number's reading gives: from the bytes that were met, and those to come. -/
def readVar (at_ : Nat) : List Int → List Int → Int × Int × Bool
  | _, [] => (0, 0, false)
  | p, c :: t => if 10 ≤ p.length then (0, 0, false) else if c < 128 then (if (p = [] ∨ c ≠ 0) ∧ (p.length = 9 → c ≤ 1) then ((vval (p ++ [c]) : Int), (at_ : Int) + p.length + 1, true) else (0, 0, false)) else readVar at_ (p ++ [c]) t
theorem readVar_ten (at_ : Nat) (p t : List Int) (h : 10 ≤ p.length) : readVar at_ p t = (0, 0, false) := by
  cases t with
  | nil => rfl
  | cons c t => simp only [readVar, if_pos h]
theorem and127 : ∀ x : Fin 256, Go.bits .and .u8 (x.val : Int) 127 = ((x.val % 128 : Nat) : Int) := by decide +kernel
theorem and127_int {x : Int} (h : 0 ≤ x) (h' : x ≤ 255) : Go.bits .and .u8 x 127 = x % 128 := by
  have := and127 ⟨x.toNat, by omega⟩
  simp only at this
  rw [show ((x.toNat : Nat) : Int) = x by omega] at this
  rw [this]; omega
theorem wraps_u64 (n : Int) (h₀ : 0 ≤ n) (h₁ : n < 2 ^ 64) : IntKind.u64.wrap n = n := by rw [wrap_u64]; omega
theorem or_add_u64 (i : Nat) (hi : i ≤ 64) (x y : Int) (hx : 0 ≤ x) (hx' : x % 2 ^ i = 0) (hx2 : x < 2 ^ 64) (hy : 0 ≤ y) (hy' : y < 2 ^ i) : Go.bits .or .u64 y x = y + x := by
  have h2 : (2 : Int) ^ i ≤ 2 ^ 64 := by
    have := Nat.pow_le_pow_right (n := 2) (by decide) hi
    exact_mod_cast this
  have e := bits_join .u64 64 (by decide) wraps_u64 i x y hx hx' hx2 hy hy' (by omega)
  obtain ⟨a, rfl⟩ := Int.eq_ofNat_of_zero_le hx
  obtain ⟨b, rfl⟩ := Int.eq_ofNat_of_zero_le hy
  have ha : a < 2 ^ 64 := by exact_mod_cast hx2
  have hb : b < 2 ^ 64 := by
    have : (b : Int) < 2 ^ 64 := by omega
    exact_mod_cast this
  rw [(bits_nat .u64 64 (by decide) wraps_u64 b a hb ha).2, Nat.or_comm]
  rw [(bits_nat .u64 64 (by decide) wraps_u64 a b ha hb).2] at e
  rw [e]; omega
theorem two_pow_7 (j : Nat) : (2 : Int) ^ (7 * j) = 128 ^ j := by rw [Int.pow_mul]; rfl
/-- One more byte's seven bits. -/
theorem step_bits (p : List Int) (c : Int) (h0 : 0 ≤ c) (h1 : c ≤ 255) (hl : p.length ≤ 9) :
    Go.bits .or .u64 (vval p : Int) (shl .u64 (IntKind.u64.wrap (Go.bits .and .u8 c 127)) (7 * (p.length : Int))) = ((vval (p ++ [c]) : Nat) : Int) % 18446744073709551616 ∧ (p.length ≤ 8 → vval (p ++ [c]) < 9223372036854775808) := by
  have hv := vval_lt p
  have hp9 : (128 : Nat) ^ p.length ≤ 128 ^ 9 := Nat.pow_le_pow_right (by decide) hl
  have hc : (c % 128).toNat < 128 := by omega
  have hsn := vval_snoc p c
  refine ⟨?_, fun h8 => ?_⟩
  · rw [and127_int h0 h1, wraps_u64 _ (by omega) (by omega)]
    unfold shl
    rw [show (min (7 * (p.length : Int)).toNat IntKind.u64.bits) = 7 * p.length by simp [IntKind.bits]; omega, two_pow_7, wrap_u64]
    have e2 : ((128 : Nat) ^ p.length * (c % 128).toNat : Nat) = ((c % 128) * 128 ^ p.length : Int) := by
      push_cast
      rw [Int.mul_comm]
      congr 1
      omega
    rw [← e2, hsn]
    generalize hQ : 128 ^ p.length * (c % 128).toNat = Q
    have hd : Q % 128 ^ p.length = 0 := by rw [← hQ]; simp
    have hdv : (18446744073709551616 : Nat) % 128 ^ p.length = 0 := by
      have h7 : p.length = 0 ∨ p.length = 1 ∨ p.length = 2 ∨ p.length = 3 ∨ p.length = 4 ∨ p.length = 5 ∨ p.length = 6 ∨ p.length = 7 ∨ p.length = 8 ∨ p.length = 9 := by omega
      rcases h7 with h | h | h | h | h | h | h | h | h | h <;> rw [h]
    have hQd : (Q % 18446744073709551616) % 128 ^ p.length = 0 := by
      have : 128 ^ p.length ∣ Q % 18446744073709551616 := (Nat.dvd_mod_iff (Nat.dvd_of_mod_eq_zero hdv)).2 (Nat.dvd_of_mod_eq_zero hd)
      exact Nat.mod_eq_zero_of_dvd this
    have hv64 : vval p < 9223372036854775808 := Nat.lt_of_lt_of_le hv (by simpa using hp9)
    rw [show ((Q : Int) % 18446744073709551616) = ((Q % 18446744073709551616 : Nat) : Int) by omega]
    rw [or_add_u64 (7 * p.length) (by omega) _ _ (by omega) (by rw [two_pow_7]; exact_mod_cast hQd) (by omega) (by omega) (by rw [two_pow_7]; exact_mod_cast hv)]
    have hlt : vval p + Q % 18446744073709551616 < 18446744073709551616 := by
      -- both are below, and Q % 2^64 is a multiple of 128^len, 2^64 too
      have h1' : Q % 18446744073709551616 < 18446744073709551616 := Nat.mod_lt _ (by decide)
      obtain ⟨a, ha⟩ := Nat.dvd_of_mod_eq_zero hQd
      obtain ⟨b, hb⟩ := Nat.dvd_of_mod_eq_zero hdv
      have hab : a < b := by
        rw [ha, hb] at h1'
        exact Nat.lt_of_mul_lt_mul_left h1'
      have : 128 ^ p.length * a + 128 ^ p.length ≤ 128 ^ p.length * b := by
        rw [← Nat.mul_succ]; exact Nat.mul_le_mul_left _ hab
      omega
    omega
  · have h9 : (p ++ [c]).length ≤ 9 := by simp; omega
    have := vval_lt (p ++ [c])
    have h2 : (128 : Nat) ^ (p ++ [c]).length ≤ 128 ^ 9 := Nat.pow_le_pow_right (by decide) h9
    have : vval (p ++ [c]) < 128 ^ 9 := Nat.lt_of_lt_of_le this h2
    simpa using this
theorem spec_l1Var_l0 (l : List Int) (hb : Bytes l) (hl : l.length ≤ 281474976710656) (at_ : Nat) : ∀ (t p : List Int), l.drop at_ = p ++ t → at_ ≤ l.length → p.length ≤ 10 → Conts p →
    Ev (fun k => spec_l1Var.l0 k l (at_ : Int) (if p.length ≤ 9 then (vval p : Int) else 0) (p.length : Int)) ((readVar at_ p t).1, (readVar at_ p t).2.1) ∨ p.length = 10 := by
  intro t
  induction t with
  | nil =>
    intro p hd ha hp hcp
    by_cases h10 : p.length = 10
    · exact .inr h10
    refine .inl (Ev_succ ?_)
    have hlen := congrArg List.length hd
    simp at hlen
    simp only [spec_l1Var.l0, if_pos (show (p.length : Int) < 10 by omega)]
    rw [w64 (by omega) (by omega), decide_eq_false (by omega)]
    refine Ev_succ ?_
    simp only [spec_l1Var.j1]
    exact Ev.now _
  | cons c t ih =>
    intro p hd ha hp hcp
    by_cases h10 : p.length = 10
    · exact .inr h10
    refine .inl (Ev_succ ?_)
    have hlen := congrArg List.length hd
    simp at hlen
    have hrd : rd l ((at_ : Int) + p.length) = c := by
      have : (l.drop at_)[p.length]? = some c := by rw [hd]; simp
      rw [List.getElem?_drop] at this
      have h3 : at_ + p.length < l.length := by omega
      rw [show ((at_ : Int) + p.length) = ((at_ + p.length : Nat) : Int) by omega, rd_lt h3]
      rw [List.getElem?_eq_getElem h3] at this
      exact Option.some.inj this
    have hcm : c ∈ l := by
      have : c ∈ l.drop at_ := by rw [hd]; simp
      exact List.mem_of_mem_drop this
    have hcb := hb c hcm
    simp only [spec_l1Var.l0, if_pos (show (p.length : Int) < 10 by omega), if_pos (show p.length ≤ 9 by omega)]
    rw [w64 (by omega) (by omega), decide_eq_true (by omega)]
    refine Ev_succ ?_
    simp only [spec_l1Var.j1, if_true]
    rw [w64 (by omega) (by omega)]
    simp only [if_pos (show 0 ≤ (at_ : Int) + p.length by omega), if_pos (show (at_ : Int) + p.length < (l.length : Int) by omega), hrd]
    obtain ⟨sb, s8⟩ := step_bits p c hcb.1 hcb.2 (by omega)
    have go : ∀ b : Bool, b = decide (p.length = 9 ∧ c > 1) → Ev (fun k => spec_l1Var.j2 k l (at_ : Int) (vval p : Int) (p.length : Int) c b) ((readVar at_ p (c :: t)).1, (readVar at_ p (c :: t)).2.1) := by
      rintro b rfl
      refine Ev_succ ?_
      simp only [spec_l1Var.j2]
      by_cases h9 : p.length = 9 ∧ c > 1
      · simp only [h9, and_self, decide_true, if_true]
        refine Ev_cast (Ev.now _) ?_
        simp only [readVar]
        rw [if_neg (by omega)]
        by_cases hc8 : c < 128
        · rw [if_pos hc8, if_neg (by omega)]
        · rw [if_neg hc8, readVar_ten _ _ _ (by simp; omega)]
      · rw [decide_eq_false h9]
        simp only [Bool.false_eq_true, if_false]
        rw [w64 (by omega) (by omega), wraps_u64 _ (by omega) (by omega), sb]
        have hle : vval (p ++ [c]) < 18446744073709551616 := by
          by_cases h8 : p.length ≤ 8
          · have := s8 h8; omega
          · have h99 : p.length = 9 := by omega
            have h01 : c ≤ 1 := by omega
            rw [vval_snoc, h99]
            have := vval_lt p
            rw [h99] at this
            have h5 : (c % 128).toNat ≤ 1 := by omega
            have h6 : 128 ^ 9 * (c % 128).toNat ≤ 128 ^ 9 * 1 := Nat.mul_le_mul_left _ h5
            simp at this h6 ⊢
            omega
        rw [show ((vval (p ++ [c]) : Nat) : Int) % 18446744073709551616 = (vval (p ++ [c]) : Int) by omega]
        simp only [if_pos (show 0 ≤ 7 * (p.length : Int) by omega)]
        by_cases hc8 : c < 128
        · simp only [if_pos hc8]
          rw [w64 (n := (at_ : Int) + p.length) (by omega) (by omega), w64 (n := (at_ : Int) + p.length + 1) (by omega) (by omega)]
          have er : readVar at_ p (c :: t) = if (p = [] ∨ c ≠ 0) ∧ (p.length = 9 → c ≤ 1) then ((vval (p ++ [c]) : Int), (at_ : Int) + p.length + 1, true) else (0, 0, false) := by
            simp only [readVar]; rw [if_neg (by omega), if_pos hc8]
          rw [er]
          by_cases hp0 : p = []
          · subst hp0
            rw [if_pos (show (([] : List Int) = [] ∨ c ≠ 0) ∧ (([] : List Int).length = 9 → c ≤ 1) from ⟨.inl rfl, by simp⟩)]
            simp only [if_neg (show ¬ ((([] : List Int).length : Int) > 0) by simp)]
            exact Ev_cast (Ev.now _) (by simp)
          · have hpl : 0 < p.length := List.length_pos_iff.2 hp0
            simp only [if_pos (show (p.length : Int) > 0 by omega)]
            by_cases hc0 : c = 0
            · simp only [if_pos hc0]
              rw [if_neg (by simp [hp0, hc0])]
              exact Ev.now _
            · simp only [if_neg hc0]
              rw [if_pos ⟨.inr hc0, by omega⟩]
              exact Ev_cast (Ev.now _) rfl
        · simp only [if_neg hc8]
          rw [w64 (by omega) (by omega)]
          have e1 : readVar at_ p (c :: t) = readVar at_ (p ++ [c]) t := by
            simp only [readVar]; rw [if_neg (by omega), if_neg hc8]
          rw [e1]
          rcases ih (p ++ [c]) (by rw [hd]; simp) ha (by simp; omega) (by
            intro x hx
            rcases List.mem_append.1 hx with h | h
            · exact hcp x h
            · obtain rfl : x = c := by simpa using h
              omega) with h | h
          · by_cases h99 : p.length = 9
            · omega
            · rw [if_pos (by simp; omega)] at h
              simpa using h
          · simp at h
            omega
    by_cases h9 : (p.length : Int) = 9
    · simp only [if_pos h9]
      exact go _ (by have : p.length = 9 := by omega
                     simp [this])
    · simp only [if_neg h9]
      exact go _ (by have : ¬ p.length = 9 := by omega
                     simp [this])
theorem spec_l1Var_ev (l : List Int) (hb : Bytes l) (hl : l.length ≤ 281474976710656) (at_ : Nat) (ha : at_ ≤ l.length) : Ev (fun k => spec_l1Var.f k l (at_ : Int)) ((readVar at_ [] (l.drop at_)).1, (readVar at_ [] (l.drop at_)).2.1) := by
  unfold spec_l1Var.f
  rcases spec_l1Var_l0 l hb hl at_ (l.drop at_) [] (by simp) ha (by simp) (fun x hx => by cases hx) with h | h
  · simpa [vval] using h
  · simp at h
theorem impl_ReadVar_l0 (l : List Int) (hb : Bytes l) (hl : l.length ≤ 281474976710656) (at_ : Nat) : ∀ (t p : List Int), l.drop at_ = p ++ t → at_ ≤ l.length → p.length ≤ 10 → Conts p →
    ∀ x : Int, (p.length ≤ 9 → x = (vval p : Int)) → Ev (fun k => impl_ReadVar.l0 k l (at_ : Int) x ((at_ : Int) + p.length)) (readVar at_ p t) := by
  intro t
  induction t with
  | nil =>
    intro p hd ha hp hcp x hx
    refine Ev_succ ?_
    have hlen := congrArg List.length hd
    simp at hlen
    simp only [impl_ReadVar.l0]
    rw [w64 (n := (at_ : Int) + 10) (by omega) (by omega)]
    simp only [if_neg (show ¬ (at_ : Int) + p.length < mn (l.length : Int) ((at_ : Int) + 10) by unfold mn; split <;> omega)]
    exact Ev.now _
  | cons c t ih =>
    intro p hd ha hp hcp x hx
    refine Ev_succ ?_
    have hlen := congrArg List.length hd
    simp at hlen
    simp only [impl_ReadVar.l0]
    by_cases h10 : p.length = 10
    · rw [w64 (n := (at_ : Int) + 10) (by omega) (by omega), readVar_ten _ _ _ (by omega)]
      simp only [if_neg (show ¬ (at_ : Int) + p.length < mn (l.length : Int) ((at_ : Int) + 10) by unfold mn; split <;> omega)]
      exact Ev.now _
    have hx := hx (by omega)
    subst hx
    have hrd : rd l ((at_ : Int) + p.length) = c := by
      have : (l.drop at_)[p.length]? = some c := by rw [hd]; simp
      rw [List.getElem?_drop] at this
      have h3 : at_ + p.length < l.length := by omega
      rw [show ((at_ : Int) + p.length) = ((at_ + p.length : Nat) : Int) by omega, rd_lt h3]
      rw [List.getElem?_eq_getElem h3] at this
      exact Option.some.inj this
    have hcm : c ∈ l := by
      have : c ∈ l.drop at_ := by rw [hd]; simp
      exact List.mem_of_mem_drop this
    have hcb := hb c hcm
    obtain ⟨sb, s8⟩ := step_bits p c hcb.1 hcb.2 (by omega)
    rw [w64 (n := (at_ : Int) + 10) (by omega) (by omega)]
    simp only [if_pos (show (at_ : Int) + p.length < mn (l.length : Int) ((at_ : Int) + 10) by unfold mn; split <;> omega)]
    simp only [hrd]
    rw [w64 (n := (at_ : Int) + p.length - at_) (by omega) (by omega), show (at_ : Int) + p.length - at_ = (p.length : Int) by omega, w64 (n := 7 * (p.length : Int)) (by omega) (by omega), w64 (n := (at_ : Int) + p.length + 1) (by omega) (by omega), sb]
    simp only [if_pos (show 0 ≤ (at_ : Int) + p.length by omega), if_pos (show (at_ : Int) + p.length < (l.length : Int) by omega), if_pos (show 0 ≤ 7 * (p.length : Int) by omega)]
    by_cases hc8 : c < 128
    · simp only [if_pos hc8]
      have er : readVar at_ p (c :: t) = if (p = [] ∨ c ≠ 0) ∧ (p.length = 9 → c ≤ 1) then ((vval (p ++ [c]) : Int), (at_ : Int) + p.length + 1, true) else (0, 0, false) := by
        simp only [readVar]; rw [if_neg (by omega), if_pos hc8]
      rw [er]
      rw [show ((vval (p ++ [c]) : Nat) : Int) % 18446744073709551616 = ((vval (p ++ [c]) % 18446744073709551616 : Nat) : Int) by omega]
      have hm : vval (p ++ [c]) % 18446744073709551616 ≤ 18446744073709551615 := by omega
      refine Ev.bind (impl_PutVar_ev _ hm) ?_
      simp only [if_pos (show 0 ≤ (at_ : Int) by omega), if_pos (show (at_ : Int) ≤ (at_ : Int) + p.length + 1 by omega), if_pos (show (at_ : Int) + p.length + 1 ≤ (l.length : Int) by omega)]
      have hcut : (l.take ((at_ : Int) + p.length + 1).toNat).drop (at_ : Int).toNat = p ++ [c] := by
        rw [show ((at_ : Int) + p.length + 1).toNat = at_ + (p.length + 1) by omega, show ((at_ : Int)).toNat = at_ by omega, ← List.take_drop, hd]
        rw [show p ++ c :: t = (p ++ [c]) ++ t by simp, List.take_append_of_le_length (by simp)]
        rw [List.take_of_length_le (by simp)]
      rw [hcut]
      have hpb : Bytes (p ++ [c]) := by
        intro y hy
        have : y ∈ l.drop at_ := by rw [hd, show p ++ c :: t = (p ++ [c]) ++ t by simp]; exact List.mem_append_left _ hy
        exact hb y (List.mem_of_mem_drop this)
      refine Ev.bind (Ev_some (by unfold bytes_Equal.f; rw [strOfNums_eq _ _ (putVar_bytes _) hpb])) ?_
      by_cases hg : (p = [] ∨ c ≠ 0) ∧ (p.length = 9 → c ≤ 1)
      · rw [if_pos hg]
        have hle : vval (p ++ [c]) < 18446744073709551616 := by
          by_cases h8 : p.length ≤ 8
          · have := s8 h8; omega
          · have h99 : p.length = 9 := by omega
            have h01 : c ≤ 1 := hg.2 h99
            rw [vval_snoc, h99]
            have := vval_lt p
            rw [h99] at this
            have h5 : (c % 128).toNat ≤ 1 := by omega
            have h6 : 128 ^ 9 * (c % 128).toNat ≤ 128 ^ 9 * 1 := Nat.mul_le_mul_left _ h5
            simp at this h6 ⊢
            omega
        rw [Nat.mod_eq_of_lt hle]
        rw [decide_eq_true (putVar_vval p c hcp hcb.1 hc8 hg.1)]
        simp only [if_true]
        exact Ev.now _
      · rw [if_neg hg]
        have hne : ¬ putVar (vval (p ++ [c]) % 18446744073709551616) = p ++ [c] := by
          intro e
          have h1 := putVar_last _ _ _ e
          have h2 := vval_putVar (vval (p ++ [c]) % 18446744073709551616)
          rw [e] at h2
          apply hg
          refine ⟨h1, fun h9 => ?_⟩
          have h3 : vval (p ++ [c]) < 18446744073709551616 := by omega
          rw [vval_snoc, h9] at h3
          by_cases hc2 : c ≤ 1
          · exact hc2
          · exfalso
            have h5 : 2 ≤ (c % 128).toNat := by omega
            have h6 : 128 ^ 9 * 2 ≤ 128 ^ 9 * (c % 128).toNat := Nat.mul_le_mul_left _ h5
            simp at h3 h6
            omega
        rw [decide_eq_false hne]
        simp only [Bool.false_eq_true, if_false]
        exact Ev.now _
    · simp only [if_neg hc8]
      have e1 : readVar at_ p (c :: t) = readVar at_ (p ++ [c]) t := by
        simp only [readVar]; rw [if_neg (by omega), if_neg hc8]
      rw [e1, show (at_ : Int) + p.length + 1 = (at_ : Int) + ((p ++ [c]).length : Int) by simp; omega]
      refine ih (p ++ [c]) (by rw [hd]; simp) ha (by simp; omega) ?_ _ (fun h => ?_)
      · intro x hx
        rcases List.mem_append.1 hx with h | h
        · exact hcp x h
        · obtain rfl : x = c := by simpa using h
          omega
      · have : p.length ≤ 8 := by simp at h; omega
        have := s8 this
        omega
theorem impl_ReadVar_ev (l : List Int) (hb : Bytes l) (hl : l.length ≤ 281474976710656) (a : Int) : Ev (fun k => impl_ReadVar.f k l a) (if 0 ≤ a ∧ a ≤ l.length then readVar a.toNat [] (l.drop a.toNat) else (0, 0, false)) := by
  unfold impl_ReadVar.f
  refine Ev.bind (Ev_some (within_eq _ _ _)) ?_
  by_cases h : 0 ≤ a ∧ a ≤ l.length
  · rw [decide_eq_true h, if_pos h]
    simp only [if_true]
    have := impl_ReadVar_l0 l hb hl a.toNat (l.drop a.toNat) [] (by simp) (by omega) (by simp) (fun x hx => by cases hx) 0 (fun _ => by simp [vval])
    simp only [List.length_nil, Int.natCast_zero, Int.add_zero] at this
    rwa [show ((a.toNat : Nat) : Int) = a by omega] at this
  · rw [decide_eq_false h, if_neg h]
    simp only [Bool.false_eq_true, if_false]
    exact Ev.now _
theorem readVar_ok (at_ : Nat) : ∀ (t p : List Int), readVar at_ p t = ((readVar at_ p t).1, (readVar at_ p t).2.1, decide ((readVar at_ p t).2.1 > 0)) := by
  intro t
  induction t with
  | nil => intro p; rfl
  | cons c t ih =>
    intro p
    simp only [readVar]
    by_cases h1 : 10 ≤ p.length
    · simp only [if_pos h1]; rfl
    · simp only [if_neg h1]
      by_cases h2 : c < 128
      · simp only [if_pos h2]
        by_cases h3 : (p = [] ∨ c ≠ 0) ∧ (p.length = 9 → c ≤ 1)
        · simp only [if_pos h3]
          rw [decide_eq_true (show (at_ : Int) + p.length + 1 > 0 by omega)]
        · simp only [if_neg h3]; rfl
      · simp only [if_neg h2]; exact ih _
theorem spec_ReadVar_ev (l : List Int) (hb : Bytes l) (hl : l.length ≤ 281474976710656) (a : Int) : Ev (fun k => spec_ReadVar.f k l a) (if 0 ≤ a ∧ a ≤ l.length then readVar a.toNat [] (l.drop a.toNat) else (0, 0, false)) := by
  unfold spec_ReadVar.f
  refine Ev.bind (Ev_some (l1In_eq _ _ _)) ?_
  rw [w64 (by omega) (by omega)]
  by_cases h : 0 ≤ a ∧ a ≤ (l.length : Int) - 1
  · rw [decide_eq_true h, if_pos (by omega)]
    simp only [if_true]
    have := spec_l1Var_ev l hb hl a.toNat (by omega)
    rw [show ((a.toNat : Nat) : Int) = a by omega] at this
    refine Ev.bind this ?_
    exact Ev_cast (Ev.now _) (readVar_ok _ _ _).symm
  · rw [decide_eq_false h]
    simp only [Bool.false_eq_true, if_false]
    by_cases h2 : 0 ≤ a ∧ a ≤ l.length
    · rw [if_pos h2, List.drop_eq_nil_of_le (by omega)]; exact Ev.now _
    · rw [if_neg h2]; exact Ev.now _
theorem FnExactReadVar : laws_FnExactReadVar.Pure := by
  intro l a h3 h4
  have hb := Bytes.wf h3.2
  refine Ev.rounds ?_
  unfold laws_FnExactReadVar.f
  by_cases hbig : (l.length : Int) > 1048576
  · simp only [if_pos hbig]; exact Ev.now _
  simp only [if_neg hbig]
  refine Ev.bind (toByteS_ev l (by omega)) ?_
  refine Ev.bind (spec_ReadVar_ev l hb (by omega) a) ?_
  refine Ev.bind (toByteS_ev l (by omega)) ?_
  refine Ev.bind (impl_ReadVar_ev l hb (by omega) a) ?_
  simp only [if_true, bne_self_eq_false]
  refine Ev_succ ?_
  simp only [laws_FnExactReadVar.j0, Bool.false_eq_true, if_false]
  refine Ev.bind (toByteS_ev l (by omega)) ?_
  refine Ev.bind (eqByteS_same _ _ (by omega) rfl) ?_
  simp only [if_true]
  exact Ev.now _
end Go.Proofs.Ytmlbbmdhnnpgbaa.Pure
