/- The law FnExactMayHave answers true, for all filters and keys. -/
import Derived.Test.YtolpkckaijeahaaPFnExactMayHavex2
import Derived.Test.YtolpkckaijeahaaPFnExactMayHavex2
set_option linter.unusedVariables false
set_option linter.unusedSimpArgs false
namespace Go.Proofs.Ytolpkckaijeahaa.Pure
open Go.RowKit Go.Proofs.Ytolpkckaijeahaa.PFnExactMayHave Go.Proofs.YtolpkckaijeahaaW Go.Proofs.YtolpkckaijeahaaW.PrintWords Go.Proofs.YtolpkckaijeahaaW.PrintLast Go.Proofs.YtolpkckaijeahaaW.PrintMore
/-! ### base: rounds, numbers -/
theorem Ev_succ {α : Type} {g : Nat → Option α} {r : α} (h : Ev (fun k => g (k + 1)) r) : Ev g r := Ev.step (fun _ => rfl) h
theorem Ev_some {α : Type} {o : Option α} {r : α} (h : o = some r) : Ev (fun _ => o) r := ⟨0, fun _ _ => h⟩
theorem Ev_cast {α : Type} {g : Nat → Option α} {r q : α} (h : Ev g r) (e : r = q) : Ev g q := e ▸ h
theorem w64 {n : Int} (h : -9223372036854775808 ≤ n) (h' : n ≤ 9223372036854775807) : wrap64 n = n := by unfold wrap64; omega
theorem wf_i64 {n : Int} (h : (Lit.int .i64 n).wf = true) : -9223372036854775808 ≤ n ∧ n ≤ 9223372036854775807 := by
  simp only [Lit.wf, IntKind.min, IntKind.max, IntKind.signed, IntKind.bits, Bool.and_eq_true, decide_eq_true_eq, if_true] at h
  omega
theorem wf_u64 {n : Int} (h : (Lit.int .u64 n).wf = true) : 0 ≤ n ∧ n ≤ 18446744073709551615 := by
  simp only [Lit.wf, IntKind.min, IntKind.max, IntKind.signed, IntKind.bits, Bool.and_eq_true, decide_eq_true_eq, if_true] at h
  simp at h
  omega
theorem wf_u8 {n : Int} (h : (Lit.int .u8 n).wf = true) : 0 ≤ n ∧ n ≤ 255 := by
  simp only [Lit.wf, IntKind.min, IntKind.max, IntKind.signed, IntKind.bits, Bool.and_eq_true, decide_eq_true_eq, if_true] at h
  simp at h
  omega
theorem wrap_u64 (n : Int) : IntKind.u64.wrap n = n % 18446744073709551616 := by simp [IntKind.wrap, IntKind.bits, IntKind.signed]
theorem wrap_u32 (n : Int) : IntKind.u32.wrap n = n % 4294967296 := by simp [IntKind.wrap, IntKind.bits, IntKind.signed]
/-- A list of bytes. -/
def Bytes (l : List Int) : Prop := ∀ x ∈ l, 0 ≤ x ∧ x ≤ 255
theorem Bytes.wf {l : List Int} (h : ∀ x ∈ l, (Lit.int .u8 x).wf = true) : Bytes l := fun x hx => wf_u8 (h x hx)
theorem Bytes.nil : Bytes [] := fun x hx => by cases hx
theorem Bytes.app {a b : List Int} (h : Bytes a) (k : Bytes b) : Bytes (a ++ b) := fun x hx => by
  rcases List.mem_append.1 hx with h' | h'
  · exact h x h'
  · exact k x h'
theorem Bytes.one {x : Int} (h : 0 ≤ x) (h' : x ≤ 255) : Bytes [x] := fun y hy => (List.mem_singleton.1 hy) ▸ ⟨h, h'⟩
theorem Bytes.sub {a b : List Int} (h : Bytes a) (k : ∀ x ∈ b, x ∈ a) : Bytes b := fun x hx => h x (k x hx)
theorem Bytes.take {a : List Int} (h : Bytes a) (n : Nat) : Bytes (a.take n) := h.sub fun _ hx => List.mem_of_mem_take hx
theorem Bytes.drop {a : List Int} (h : Bytes a) (n : Nat) : Bytes (a.drop n) := h.sub fun _ hx => List.mem_of_mem_drop hx
theorem rd_lt {l : List Int} {i : Nat} (h : i < l.length) : rd l (i : Int) = l[i] := by simp [rd, h]
theorem Bytes.rd {l : List Int} (h : Bytes l) (i : Int) : 0 ≤ rd l i ∧ rd l i ≤ 255 := by
  unfold PrintWords.rd
  by_cases hi : i.toNat < l.length
  · rw [List.getD_eq_getElem?_getD, List.getElem?_eq_getElem hi]; exact h _ (List.getElem_mem hi)
  · rw [List.getD_eq_getElem?_getD, List.getElem?_eq_none (by omega)]; simp
theorem drop_cons {α : Type} {l : List α} {i : Nat} (h : i < l.length) : l.drop i = l[i] :: l.drop (i + 1) := List.drop_eq_getElem_cons h
/-! ### the laws' own words on bytes -/
theorem eqByteS_l0 (a b : List Int) (hl : a.length = b.length) (hb : a.length ≤ 4611686018427387904) :
    ∀ (d i : Nat), a.length - i = d → i ≤ a.length → Ev (fun k => laws_eqByteS.l0 k a b (i : Int)) (decide (a.drop i = b.drop i)) := by
  intro d
  induction d with
  | zero =>
    intro i hd hi
    refine Ev_succ ?_
    simp only [laws_eqByteS.l0]
    simp only [if_neg (show ¬ (i : Int) < (a.length : Int) by omega)]
    exact Ev_cast (Ev.now _) (by rw [List.drop_eq_nil_of_le (by omega), List.drop_eq_nil_of_le (by omega)]; simp)
  | succ d ih =>
    intro i hd hi
    refine Ev_succ ?_
    simp only [laws_eqByteS.l0]
    simp only [if_pos (show (i : Int) < (a.length : Int) by omega), if_pos (show 0 ≤ (i : Int) by omega), if_pos (show (i : Int) < (b.length : Int) by omega)]
    rw [rd_lt (by omega), rd_lt (by omega), w64 (by omega) (by omega), drop_cons (l := a) (by omega), drop_cons (l := b) (i := i) (by omega)]
    by_cases e : a[i]'(by omega) = b[i]'(by omega)
    · simp only [if_pos e]
      exact Ev_cast (ih (i + 1) (by omega) (by omega)) (decide_eq_decide.2 (by rw [List.cons.injEq]; exact ⟨fun h => ⟨e, h⟩, fun h => h.2⟩))
    · simp only [if_neg e]
      exact Ev_cast (Ev.now _) (Eq.symm (decide_eq_false (by rw [List.cons.injEq]; exact fun h => e h.1)))
theorem eqByteS_ev (a b : List Int) (ha : a.length ≤ 4611686018427387904) : Ev (fun k => laws_eqByteS.f k a b) (decide (a = b)) := by
  unfold laws_eqByteS.f
  by_cases h : a.length = b.length
  · simp only [if_pos (show (a.length : Int) = (b.length : Int) by omega)]
    exact eqByteS_l0 a b h ha a.length 0 (by omega) (by omega)
  · simp only [if_neg (show ¬ (a.length : Int) = (b.length : Int) by omega)]
    exact Ev_cast (Ev.now _) (by simp; intro e; exact h (by rw [e]))
theorem eqByteS_same (a b : List Int) (ha : a.length ≤ 4611686018427387904) (e : a = b) : Ev (fun k => laws_eqByteS.f k a b) true := Ev_cast (eqByteS_ev a b ha) (by simp [e])
theorem toByteS_l0 (l : List Int) : ∀ (d i : Nat) (o : List Int), l.length - i = d → i ≤ l.length → l.length ≤ 1152921504606846976 → o.length = l.length → o.take i = l.take i →
    Ev (fun k => laws_toByteS.l0 k l o (i : Int)) l := by
  intro d
  induction d with
  | zero =>
    intro i o hd hi hl ho ht
    refine Ev_succ ?_
    simp only [laws_toByteS.l0]
    simp only [if_neg (show ¬ (i : Int) < (l.length : Int) by omega)]
    exact Ev_cast (Ev.now _) (by rw [List.take_of_length_le (by omega), List.take_of_length_le (by omega)] at ht; exact ht)
  | succ d ih =>
    intro i o hd hi hl ho ht
    refine Ev_succ ?_
    simp only [laws_toByteS.l0]
    simp only [if_pos (show (i : Int) < (l.length : Int) by omega), if_pos (show 0 ≤ (i : Int) by omega), if_pos (show (i : Int) < (o.length : Int) by omega)]
    rw [rd_lt (by omega), w64 (by omega) (by omega)]
    refine ih (i + 1) _ (by omega) (by omega) hl (by simpa using ho) ?_
    apply List.ext_getElem?
    intro j
    rw [List.getElem?_take, List.getElem?_take]
    by_cases h1 : j < i
    · have := congrArg (fun x => x[j]?) ht
      simp only [List.getElem?_take, if_pos h1] at this
      rw [if_pos (by omega), if_pos (by omega), List.getElem?_set]
      simp only [Int.toNat_natCast]
      rw [if_neg (by omega), this]
    · by_cases h2 : j = i
      · subst h2
        rw [if_pos (by omega), if_pos (by omega)]
        simp [show j < l.length by omega, show j < o.length by omega]
      · rw [if_neg (by omega), if_neg (by omega)]
theorem toByteS_ev (l : List Int) (hl : l.length ≤ 281474976710656) : Ev (fun k => laws_toByteS.f k l) l := by
  unfold laws_toByteS.f
  simp only [if_pos (show 0 ≤ (l.length : Int) by omega), Int.toNat_natCast, if_pos hl]
  exact toByteS_l0 l l.length 0 _ (by omega) (by omega) (by omega) (by simp) (by simp)
theorem within_eq (a b c : Int) : impl_within.f a b c = some (decide (b ≤ a ∧ a ≤ c)) := by
  unfold impl_within.f
  by_cases h : a ≥ b
  · rw [if_pos h]; simp; intro; omega
  · rw [if_neg h]; simp; intro; omega
theorem l1In_eq (a b c : Int) : spec_l1In.f a b c = some (decide (b ≤ a ∧ a ≤ c)) := by
  unfold spec_l1In.f
  by_cases h : a ≥ b
  · rw [if_pos h]; simp; intro; omega
  · rw [if_neg h]; simp; intro; omega
/-! ### filters -/
theorem szByteS_eq (l : List Int) (a : Int) (h0 : 0 ≤ a) (h1 : a ≤ 1048576) (hl : l.length ≤ 9223372036854775807) : laws_szByteS.f l a = some (if a - l.length < 0 then -1 else a - l.length) := by
  unfold laws_szByteS.f
  rw [w64 (by omega) (by omega)]
  by_cases h : a - (l.length : Int) < 0
  · simp only [if_pos h]
  · simp only [if_neg h]
theorem szFilter_eq (w : Int) (l : List Int) (hl : l.length ≤ 9223372036854775807) : ∃ z, laws_szFilter.f w l 1048576 = some z ∧ (z < 0 ∨ l.length ≤ 1048576) := by
  unfold laws_szFilter.f
  rw [szByteS_eq l 1048576 (by omega) (by omega) hl]
  simp only [Option.bind_some]
  by_cases h : (1048576 : Int) - l.length < 0
  · exact ⟨-1, by rw [if_pos h]; rfl, .inl (by omega)⟩
  · exact ⟨1048576 - l.length, by rw [if_neg h, if_neg h], .inr (by omega)⟩
theorem toFilter_ev (w : Int) (l : List Int) (hl : l.length ≤ 281474976710656) : Ev (fun k => laws_toFilter.f k w l) (w, l) := by
  unfold laws_toFilter.f
  exact Ev.bind (toByteS_ev l hl) (Ev.now _)
theorem eqFilter_same (w : Int) (l : List Int) (hl : l.length ≤ 4611686018427387904) : Ev (fun k => laws_eqFilter.f k w l w l) true := by
  unfold laws_eqFilter.f
  simp only [if_true]
  exact Ev.bind (eqByteS_same l l hl rfl) (Ev_cast (by simp only [if_true]; exact Ev.now _) rfl)
def goodFilter (w : Int) (l : List Int) : Bool := decide ((1 ≤ w ∧ w ≤ 8) ∧ 1 ≤ l.length ∧ l.length ≤ 200)
theorem spec_GoodFilter_eq (w : Int) (l : List Int) : spec_GoodFilter.f w l = some (goodFilter w l) := by
  unfold spec_GoodFilter.f goodFilter
  rw [l1In_eq, Option.bind_some]
  by_cases h : 1 ≤ w ∧ w ≤ 8
  · rw [decide_eq_true h, if_pos rfl, l1In_eq, Option.bind_some]
    congr 1
    rw [decide_eq_decide]
    omega
  · rw [decide_eq_false h, if_neg (by simp)]
    congr 1
    rw [eq_comm, decide_eq_false_iff_not]
    exact fun hh => h hh.1
theorem impl_GoodFilter_eq (w : Int) (l : List Int) : impl_GoodFilter.f w l = some (goodFilter w l) := by
  unfold impl_GoodFilter.f goodFilter
  rw [within_eq, Option.bind_some]
  by_cases h : 1 ≤ w ∧ w ≤ 8
  · rw [decide_eq_true h, if_pos rfl, within_eq, Option.bind_some]
    congr 1
    rw [decide_eq_decide]
    omega
  · rw [decide_eq_false h, if_neg (by simp)]
    congr 1
    rw [eq_comm, decide_eq_false_iff_not]
    exact fun hh => h hh.1
/-! ### the hash -/
def hashFrom (h : Int) : List Int → Int
  | [] => Go.bits .xor .u32 h (h / 32768)
  | b :: t => hashFrom (((Go.bits .xor .u32 h (b % 4294967296)) * 16777619) % 4294967296) t
def hashOf (s : ByteArray) (seed : Int) : Int := hashFrom ((2166136261 + ((seed % 4294967296) * 40503)) % 4294967296) (bytesOf s)
theorem spec_l6Hash_l0 (s : ByteArray) (hs : s.size ≤ 4611686018427387904) : ∀ (d i : Nat) (h : Int), s.size - i = d → i ≤ s.size → Ev (fun k => spec_l6Hash.l0 k s h (i : Int)) (hashFrom h ((bytesOf s).drop i)) := by
  intro d
  have hl := bytesOf_length s
  induction d with
  | zero =>
    intro i h hd hi
    refine Ev_succ ?_
    simp only [spec_l6Hash.l0]
    simp only [if_neg (show ¬ (i : Int) < (s.size : Int) by omega)]
    rw [List.drop_eq_nil_of_le (by omega)]
    exact Ev.now _
  | succ d ih =>
    intro i h hd hi
    refine Ev_succ ?_
    simp only [spec_l6Hash.l0]
    simp only [if_pos (show (i : Int) < (s.size : Int) by omega), if_pos (show 0 ≤ (i : Int) by omega)]
    rw [← rd_bytesOf, rd_lt (by omega), w64 (by omega) (by omega), drop_cons (l := bytesOf s) (i := i) (by omega)]
    exact ih (i + 1) _ (by omega) (by omega)
theorem spec_l6Hash_ev (s : ByteArray) (hs : s.size ≤ 4611686018427387904) (seed : Int) : Ev (fun k => spec_l6Hash.f k s seed) (hashOf s seed) := by
  unfold spec_l6Hash.f hashOf
  (try rw [show (2166136261 + seed % 4294967296 * 40503 % 4294967296) % 4294967296 = (2166136261 + seed % 4294967296 * 40503) % 4294967296 by omega])
  have := spec_l6Hash_l0 s hs s.size 0 ((2166136261 + seed % 4294967296 * 40503) % 4294967296) (by omega) (by omega)
  simpa using this
theorem impl_hash_l0 (s : ByteArray) (hs : s.size ≤ 4611686018427387904) : ∀ (d i : Nat) (h : Int), s.size - i = d → i ≤ s.size → Ev (fun k => impl_hash.l0 k s h (i : Int)) (hashFrom h ((bytesOf s).drop i)) := by
  intro d
  have hl := bytesOf_length s
  induction d with
  | zero =>
    intro i h hd hi
    refine Ev_succ ?_
    simp only [impl_hash.l0]
    simp only [if_neg (show ¬ (i : Int) < (s.size : Int) by omega)]
    rw [List.drop_eq_nil_of_le (by omega)]
    exact Ev.now _
  | succ d ih =>
    intro i h hd hi
    refine Ev_succ ?_
    simp only [impl_hash.l0]
    simp only [if_pos (show (i : Int) < (s.size : Int) by omega), if_pos (show 0 ≤ (i : Int) by omega)]
    rw [rd_lt (by omega), w64 (by omega) (by omega), drop_cons (l := bytesOf s) (i := i) (by omega)]
    exact ih (i + 1) _ (by omega) (by omega)
theorem impl_hash_ev (s : ByteArray) (hs : s.size ≤ 4611686018427387904) (seed : Int) : Ev (fun k => impl_hash.f k s seed) (hashOf s seed) := by
  unfold impl_hash.f hashOf
  simp only [if_pos (show s.size ≤ 9223372036854775807 by omega)]
  have := impl_hash_l0 s hs s.size 0 ((2166136261 + seed % 4294967296 * 40503) % 4294967296) (by omega) (by omega)
  simpa using this
/-! ### the places of a key -/
theorem bits_range32 (op : BinOp) (a b : Int) : 0 ≤ Go.bits op .u32 a b ∧ Go.bits op .u32 a b < 4294967296 := by
  unfold Go.bits
  simp only [wrap_u32]
  omega
theorem hashFrom_range : ∀ (l : List Int) (h : Int), 0 ≤ hashFrom h l ∧ hashFrom h l < 4294967296 := by
  intro l
  induction l with
  | nil => intro h; exact bits_range32 _ _ _
  | cons b t ih => intro h; exact ih _
theorem hashOf_range (s : ByteArray) (seed : Int) : 0 ≤ hashOf s seed ∧ hashOf s seed < 4294967296 := hashFrom_range _ _
def placeAt (h d m : Int) (k : Nat) : Int := ((h + k * d) % 4294967296) % m
def placesFrom (h d m : Int) : Nat → Nat → List Int
  | _, 0 => []
  | k, n + 1 => placeAt h d m k :: placesFrom h d m (k + 1) n
def placesOf (s : ByteArray) (ways : Nat) (bytes : Nat) : List Int := placesFrom (hashOf s 0) (hashOf s 1) (8 * bytes) 0 ways
theorem placesFrom_range (h d m : Int) (hm : 0 < m) : ∀ (n k : Nat), ∀ p ∈ placesFrom h d m k n, 0 ≤ p ∧ p < m := by
  intro n
  induction n with
  | zero => intro k p hp; cases hp
  | succ n ih =>
    intro k p hp
    rcases List.mem_cons.1 hp with rfl | hp
    · unfold placeAt
      exact ⟨Int.emod_nonneg _ (by omega), Int.emod_lt_of_pos _ hm⟩
    · exact ih (k + 1) p hp
theorem placesFrom_length (h d m : Int) : ∀ (n k : Nat), (placesFrom h d m k n).length = n := by
  intro n
  induction n with
  | zero => intro k; rfl
  | succ n ih => intro k; simp [placesFrom, ih]
theorem place_wrap (x m : Int) (hm : 0 < m) (hm2 : m ≤ 1600) : wrap64 ((x % 4294967296) % m) = (x % 4294967296) % m := by
  have h1 := Int.emod_nonneg (x % 4294967296) (show m ≠ 0 by omega)
  have h2 := Int.emod_lt_of_pos (x % 4294967296) hm
  exact w64 (by omega) (by omega)
theorem spec_l6Places_l0 (h d : Int) (hh : 0 ≤ h) (ways bytes : Nat) (hw : ways ≤ 8) (hb : 1 ≤ bytes ∧ bytes ≤ 200) : ∀ (n k : Nat) (acc : List Int), k + n = ways → acc.length ≤ 100 + k → Ev (fun f => spec_l6Places.l0 f (ways : Int) (bytes : Int) ((h + k * d) % 4294967296) d acc (k : Int)) (acc ++ placesFrom h d (8 * bytes) k n) := by
  intro n
  induction n with
  | zero =>
    intro k acc hk ha
    refine Ev_succ ?_
    simp only [spec_l6Places.l0]
    simp only [if_neg (show ¬ (k : Int) < (ways : Int) by omega)]
    exact Ev_cast (Ev.now _) (by simp [placesFrom])
  | succ n ih =>
    intro k acc hk ha
    refine Ev_succ ?_
    simp only [spec_l6Places.l0]
    rw [w64 (n := 8 * (bytes : Int)) (by omega) (by omega), show 8 * (bytes : Int) % 4294967296 = 8 * (bytes : Int) by omega]
    simp only [if_pos (show (k : Int) < (ways : Int) by omega), if_neg (show ¬ 8 * (bytes : Int) = 0 by omega), if_pos (show acc.length < 17592186044416 by omega)]
    rw [Int.tmod_eq_emod_of_nonneg (by omega), place_wrap _ _ (by omega) (by omega), w64 (by omega) (by omega)]
    have e : ((h + k * d) % 4294967296 + d) % 4294967296 = (h + ((k + 1 : Nat) : Int) * d) % 4294967296 := by
      rw [Int.emod_add_emod]
      congr 1
      push_cast
      rw [Int.add_mul]; omega
    rw [e]
    exact Ev_cast (ih (k + 1) _ (by omega) (by simp; omega)) (by simp [placesFrom, placeAt])
theorem spec_l6Places_ev (s : ByteArray) (hs : s.size ≤ 4611686018427387904) (ways bytes : Nat) (hw : ways ≤ 8) (hb : 1 ≤ bytes ∧ bytes ≤ 200) : Ev (fun f => spec_l6Places.f f s (ways : Int) (bytes : Int)) (placesOf s ways bytes) := by
  unfold spec_l6Places.f
  refine Ev.bind (spec_l6Hash_ev s hs 0) ?_
  refine Ev.bind (spec_l6Hash_ev s hs 1) ?_
  have hr := hashOf_range s 0
  have := spec_l6Places_l0 (hashOf s 0) (hashOf s 1) (by omega) ways bytes hw hb ways 0 [] (by omega) (by simp)
  rw [show (hashOf s 0 + ((0 : Nat) : Int) * hashOf s 1) % 4294967296 = hashOf s 0 by simp; omega] at this
  exact this
theorem impl_places_l0 (h d : Int) (w : Int) (bits : List Int) (ways : Nat) (hw : ways ≤ 8) (hb : 1 ≤ bits.length ∧ bits.length ≤ 200) : ∀ (n k : Nat) (acc : List Int), k + n = ways → acc.length ≤ 100 + k → Ev (fun f => impl_Filter_places.l0 f h d acc (ways : Int) (k : Int) w bits) (acc ++ placesFrom h d (8 * (bits.length : Int)) k n) := by
  intro n
  induction n with
  | zero =>
    intro k acc hk ha
    refine Ev_succ ?_
    simp only [impl_Filter_places.l0]
    simp only [if_neg (show ¬ (k : Int) < (ways : Int) by omega)]
    exact Ev_cast (Ev.now _) (by simp [placesFrom])
  | succ n ih =>
    intro k acc hk ha
    refine Ev_succ ?_
    simp only [impl_Filter_places.l0]
    rw [w64 (n := 8 * (bits.length : Int)) (by omega) (by omega), show 8 * (bits.length : Int) % 4294967296 = 8 * (bits.length : Int) by omega, show (k : Int) % 4294967296 = (k : Int) by omega]
    simp only [if_pos (show (k : Int) < (ways : Int) by omega), if_neg (show ¬ 8 * (bits.length : Int) = 0 by omega), if_pos (show acc.length < 17592186044416 by omega)]
    rw [place_wrap _ _ (by omega) (by omega), w64 (by omega) (by omega)]
    exact Ev_cast (ih (k + 1) _ (by omega) (by simp; omega)) (by simp [placesFrom, placeAt])
theorem impl_places_ev (s : ByteArray) (hs : s.size ≤ 4611686018427387904) (ways : Nat) (bits : List Int) (hw : ways ≤ 8) (hb : 1 ≤ bits.length ∧ bits.length ≤ 200) : Ev (fun f => impl_Filter_places.f f (ways : Int) bits s) (placesOf s ways bits.length) := by
  unfold impl_Filter_places.f
  refine Ev.bind (impl_hash_ev s hs 0) ?_
  refine Ev.bind (impl_hash_ev s hs 1) ?_
  exact impl_places_l0 (hashOf s 0) (hashOf s 1) _ bits ways hw hb ways 0 [] (by omega) (by simp)
def bitZero (l : List Int) (p : Int) : Bool := (Go.bits .and .u8 (shr .u8 (rd l (wrap64 (Int.tdiv p 8))) (Int.tmod p 8)) 1) == 0
def mayHave (w : Int) (l : List Int) (s : ByteArray) : Bool := goodFilter w l && !((placesOf s w.toNat l.length).any (bitZero l))
theorem may_idx (p : Int) (m : Nat) (h0 : 0 ≤ p) (h1 : p < 8 * (m : Int)) (hm : m ≤ 200) : 0 ≤ wrap64 (Int.tdiv p 8) ∧ wrap64 (Int.tdiv p 8) < (m : Int) ∧ 0 ≤ Int.tmod p 8 ∧ IntKind.u64.wrap (Int.tmod p 8) = Int.tmod p 8 := by
  rw [Int.tdiv_eq_ediv_of_nonneg h0, Int.tmod_eq_emod_of_nonneg h0, w64 (by omega) (by omega), wrap_u64]
  omega
theorem spec_l6May_l0 (w : Int) (bits : List Int) (hb : bits.length ≤ 200) : ∀ (ps pre : List Int), (pre ++ ps).length ≤ 1000 → (∀ p ∈ ps, 0 ≤ p ∧ p < 8 * (bits.length : Int)) →
    Ev (fun k => spec_l6May.l0 k (pre ++ ps) ((pre ++ ps).length : Int) (pre.length : Int) w bits) (!(ps.any (bitZero bits))) := by
  intro ps
  induction ps with
  | nil =>
    intro pre hl hp
    refine Ev_succ ?_
    simp only [spec_l6May.l0]
    simp only [if_neg (show ¬ (pre.length : Int) < ((pre ++ []).length : Int) by simp)]
    exact Ev.now _
  | cons p ps ih =>
    intro pre hl hp
    refine Ev_succ ?_
    have hll : (pre ++ p :: ps).length = pre.length + ps.length + 1 := by simp; omega
    have hrd : rd (pre ++ p :: ps) (pre.length : Int) = p := by rw [rd_lt (by omega)]; simp
    obtain ⟨p0, p1⟩ := hp p (List.mem_cons_self ..)
    obtain ⟨i0, i1, i2, i3⟩ := may_idx p bits.length p0 p1 hb
    simp only [spec_l6May.l0, hrd]
    rw [i3]
    simp only [if_pos (show (pre.length : Int) < ((pre ++ p :: ps).length : Int) by omega), if_pos (show 0 ≤ (pre.length : Int) by omega), if_pos i0, if_pos i1, if_pos i2]
    by_cases hz : Go.bits .and .u8 (shr .u8 (rd bits (wrap64 (Int.tdiv p 8))) (Int.tmod p 8)) 1 = 0
    · simp only [if_pos hz]
      refine Ev_cast (Ev.now _) ?_
      have : bitZero bits p = true := by unfold bitZero; rw [hz]; rfl
      simp [this]
    · simp only [if_neg hz]
      rw [w64 (n := (pre.length : Int) + 1) (by omega) (by omega)]
      have e : pre ++ p :: ps = (pre ++ [p]) ++ ps := by simp
      have hz2 : bitZero bits p = false := by unfold bitZero; exact beq_eq_false_iff_ne.mpr hz
      rw [e, show (pre.length : Int) + 1 = ((pre ++ [p]).length : Int) by simp]
      refine Ev_cast (ih (pre ++ [p]) (by rw [← e]; exact hl) (fun q hq => hp q (List.mem_cons_of_mem _ hq))) ?_
      simp [hz2]
theorem places_in (s : ByteArray) (ways bytes : Nat) (hb : 1 ≤ bytes) : ∀ p ∈ placesOf s ways bytes, 0 ≤ p ∧ p < 8 * (bytes : Int) := placesFrom_range _ _ _ (by omega) _ _
theorem spec_MayHave_ev (s : ByteArray) (hs : s.size ≤ 4611686018427387904) (w : Int) (bits : List Int) : Ev (fun k => spec_MayHave.f k w bits s) (mayHave w bits s) := by
  unfold spec_MayHave.f
  refine Ev.bind (Ev_some (spec_GoodFilter_eq w bits)) ?_
  by_cases hg : goodFilter w bits = true
  · have hg2 := hg
    unfold goodFilter at hg2
    replace hg2 := of_decide_eq_true hg2
    obtain ⟨n, rfl⟩ : ∃ n : Nat, w = (n : Int) := ⟨w.toNat, by omega⟩
    have hl := placesFrom_length (hashOf s 0) (hashOf s 1) (8 * bits.length) n 0
    simp only [if_pos hg]
    refine Ev.bind (a := !((placesOf s n bits.length).any (bitZero bits))) ?_ (Ev_cast (Ev.now _) (by unfold mayHave; rw [hg, Int.toNat_natCast]; rfl))
    unfold spec_l6May.f
    refine Ev.bind (spec_l6Places_ev s hs n bits.length (by omega) (by omega)) ?_
    exact spec_l6May_l0 _ bits (by omega) (placesOf s n bits.length) [] (by unfold placesOf; simp only [List.nil_append, hl]; omega) (places_in s n bits.length (by omega))
  · simp only [if_neg hg]
    refine Ev_cast (Ev.now _) ?_
    unfold mayHave
    rw [Bool.eq_false_iff.mpr hg]; try rfl
theorem impl_MayHave_ev (s : ByteArray) (hs : s.size ≤ 4611686018427387904) (w : Int) (bits : List Int) : Ev (fun k => impl_MayHave.f k w bits s) (mayHave w bits s) := by
  unfold impl_MayHave.f
  refine Ev.bind (Ev_some (impl_GoodFilter_eq w bits)) ?_
  by_cases hg : goodFilter w bits = true
  · have hg2 := hg
    unfold goodFilter at hg2
    replace hg2 := of_decide_eq_true hg2
    obtain ⟨n, rfl⟩ : ∃ n : Nat, w = (n : Int) := ⟨w.toNat, by omega⟩
    have hl := placesFrom_length (hashOf s 0) (hashOf s 1) (8 * bits.length) n 0
    simp only [if_pos hg]
    refine Ev.bind (impl_places_ev s hs n bits (by omega) (by omega)) ?_
    have hc : (placesOf s n bits.length).all (impl_MayHave.ok bits) = true := by
      refine List.all_eq_true.mpr (fun p hp => ?_)
      obtain ⟨p0, p1⟩ := places_in s n bits.length (by omega) p hp
      obtain ⟨i0, i1, i2, i3⟩ := may_idx p bits.length p0 p1 (by omega)
      unfold impl_MayHave.ok
      simp only [decide_eq_true i0, decide_eq_true i1, decide_eq_true i2, Bool.and_self]
    have hc2 : (placesOf s n bits.length).length ≤ 9223372036854775807 := by unfold placesOf; rw [hl]; omega
    simp only [if_pos (And.intro hc hc2)]
    refine Ev_cast (Ev.now _) ?_
    unfold mayHave
    rw [hg, Int.toNat_natCast]; try rfl
  · simp only [if_neg hg]
    refine Ev_cast (Ev.now _) ?_
    unfold mayHave
    rw [Bool.eq_false_iff.mpr hg]; try rfl
theorem FnExactMayHave : laws_FnExactMayHave.Pure := by
  intro w l s h1 h2 h3
  have hl : l.length ≤ 9223372036854775807 := by have := h2.1; unfold maxLen at this; omega
  refine Ev.rounds ?_
  unfold laws_FnExactMayHave.f
  by_cases hs : (s.size : Int) > 1048576
  · simp only [if_pos hs]; exact Ev.now _
  simp only [if_neg hs]
  obtain ⟨z, hz, hz2⟩ := szFilter_eq w l hl
  refine Ev.bind (Ev_some hz) ?_
  by_cases h : z < 0
  · simp only [if_pos h]; exact Ev.now _
  have hl2 : l.length ≤ 1048576 := by omega
  simp only [if_neg h]
  refine Ev.bind (toFilter_ev w l (by omega)) ?_
  refine Ev.bind (spec_MayHave_ev s (by omega) w l) ?_
  refine Ev.bind (toFilter_ev w l (by omega)) ?_
  refine Ev.bind (impl_MayHave_ev s (by omega) w l) ?_
  simp only [bne_self_eq_false, Bool.false_eq_true, if_false]
  refine Ev.bind (toFilter_ev w l (by omega)) ?_
  refine Ev.bind (eqFilter_same w l (by omega)) ?_
  simp only [if_true]
  exact Ev.now _
end Go.Proofs.Ytolpkckaijeahaa.Pure
