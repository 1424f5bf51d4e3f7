/- The law FnExactReadKey answers true, for all bytes. -/
import Derived.Test.YtodblpadklheaaaDoorPFnExactReadKeyx9
set_option linter.unusedVariables false
set_option linter.unusedSimpArgs false
namespace Go.Proofs.YtodblpadklheaaaDoor.Pure
open Go.RowKit Go.Proofs.YtodblpadklheaaaDoor.PFnExactReadKey Go.Proofs.YtodblpadklheaaaDoorW Go.Proofs.YtodblpadklheaaaDoorW.PrintWords Go.Proofs.YtodblpadklheaaaDoorW.PrintLast Go.Proofs.YtodblpadklheaaaDoorW.PrintMore
/-! ### base: rounds, numbers -/
theorem Ev_succ {α : Type} {g : Nat → Option α} {r : α} (h : Ev (fun k => g (k + 1)) r) : Ev g r := Ev.step (fun _ => rfl) h
theorem Ev_some {α : Type} {o : Option α} {r : α} (h : o = some r) : Ev (fun _ => o) r := ⟨0, fun _ _ => h⟩
theorem Ev_cast {α : Type} {g : Nat → Option α} {r q : α} (h : Ev g r) (e : r = q) : Ev g q := e ▸ h
theorem w64 {n : Int} (h : -9223372036854775808 ≤ n) (h' : n ≤ 9223372036854775807) : wrap64 n = n := by unfold wrap64; omega
theorem wf_i64 {n : Int} (h : (Lit.int .i64 n).wf = true) : -9223372036854775808 ≤ n ∧ n ≤ 9223372036854775807 := by
  simp only [Lit.wf, IntKind.min, IntKind.max, IntKind.signed, IntKind.bits, Bool.and_eq_true, decide_eq_true_eq, if_true] at h
  omega
theorem wf_u64 {n : Int} (h : (Lit.int .u64 n).wf = true) : 0 ≤ n ∧ n ≤ 18446744073709551615 := by
  simp only [Lit.wf, IntKind.min, IntKind.max, IntKind.signed, IntKind.bits, Bool.and_eq_true, decide_eq_true_eq, if_true] at h
  simp at h
  omega
theorem wf_u8 {n : Int} (h : (Lit.int .u8 n).wf = true) : 0 ≤ n ∧ n ≤ 255 := by
  simp only [Lit.wf, IntKind.min, IntKind.max, IntKind.signed, IntKind.bits, Bool.and_eq_true, decide_eq_true_eq, if_true] at h
  simp at h
  omega
theorem wrap_u64 (n : Int) : IntKind.u64.wrap n = n % 18446744073709551616 := by simp [IntKind.wrap, IntKind.bits, IntKind.signed]
theorem wrap_u32 (n : Int) : IntKind.u32.wrap n = n % 4294967296 := by simp [IntKind.wrap, IntKind.bits, IntKind.signed]
/-- A list of bytes. -/
def Bytes (l : List Int) : Prop := ∀ x ∈ l, 0 ≤ x ∧ x ≤ 255
theorem Bytes.wf {l : List Int} (h : ∀ x ∈ l, (Lit.int .u8 x).wf = true) : Bytes l := fun x hx => wf_u8 (h x hx)
theorem Bytes.nil : Bytes [] := fun x hx => by cases hx
theorem Bytes.app {a b : List Int} (h : Bytes a) (k : Bytes b) : Bytes (a ++ b) := fun x hx => by
  rcases List.mem_append.1 hx with h' | h'
  · exact h x h'
  · exact k x h'
theorem Bytes.one {x : Int} (h : 0 ≤ x) (h' : x ≤ 255) : Bytes [x] := fun y hy => (List.mem_singleton.1 hy) ▸ ⟨h, h'⟩
theorem Bytes.sub {a b : List Int} (h : Bytes a) (k : ∀ x ∈ b, x ∈ a) : Bytes b := fun x hx => h x (k x hx)
theorem Bytes.take {a : List Int} (h : Bytes a) (n : Nat) : Bytes (a.take n) := h.sub fun _ hx => List.mem_of_mem_take hx
theorem Bytes.drop {a : List Int} (h : Bytes a) (n : Nat) : Bytes (a.drop n) := h.sub fun _ hx => List.mem_of_mem_drop hx
theorem rd_lt {l : List Int} {i : Nat} (h : i < l.length) : rd l (i : Int) = l[i] := by simp [rd, h]
theorem Bytes.rd {l : List Int} (h : Bytes l) (i : Int) : 0 ≤ rd l i ∧ rd l i ≤ 255 := by
  unfold PrintWords.rd
  by_cases hi : i.toNat < l.length
  · rw [List.getD_eq_getElem?_getD, List.getElem?_eq_getElem hi]; exact h _ (List.getElem_mem hi)
  · rw [List.getD_eq_getElem?_getD, List.getElem?_eq_none (by omega)]; simp
theorem drop_cons {α : Type} {l : List α} {i : Nat} (h : i < l.length) : l.drop i = l[i] :: l.drop (i + 1) := List.drop_eq_getElem_cons h
/-! ### the laws' own words on bytes -/
theorem eqByteS_l0 (a b : List Int) (hl : a.length = b.length) (hb : a.length ≤ 4611686018427387904) :
    ∀ (d i : Nat), a.length - i = d → i ≤ a.length → Ev (fun k => laws_eqByteS.l0 k a b (i : Int)) (decide (a.drop i = b.drop i)) := by
  intro d
  induction d with
  | zero =>
    intro i hd hi
    refine Ev_succ ?_
    simp only [laws_eqByteS.l0]
    simp only [if_neg (show ¬ (i : Int) < (a.length : Int) by omega)]
    exact Ev_cast (Ev.now _) (by rw [List.drop_eq_nil_of_le (by omega), List.drop_eq_nil_of_le (by omega)]; simp)
  | succ d ih =>
    intro i hd hi
    refine Ev_succ ?_
    simp only [laws_eqByteS.l0]
    simp only [if_pos (show (i : Int) < (a.length : Int) by omega), if_pos (show 0 ≤ (i : Int) by omega), if_pos (show (i : Int) < (b.length : Int) by omega)]
    rw [rd_lt (by omega), rd_lt (by omega), w64 (by omega) (by omega), drop_cons (l := a) (by omega), drop_cons (l := b) (i := i) (by omega)]
    by_cases e : a[i]'(by omega) = b[i]'(by omega)
    · simp only [if_pos e]
      exact Ev_cast (ih (i + 1) (by omega) (by omega)) (decide_eq_decide.2 (by rw [List.cons.injEq]; exact ⟨fun h => ⟨e, h⟩, fun h => h.2⟩))
    · simp only [if_neg e]
      exact Ev_cast (Ev.now _) (Eq.symm (decide_eq_false (by rw [List.cons.injEq]; exact fun h => e h.1)))
theorem eqByteS_ev (a b : List Int) (ha : a.length ≤ 4611686018427387904) : Ev (fun k => laws_eqByteS.f k a b) (decide (a = b)) := by
  unfold laws_eqByteS.f
  by_cases h : a.length = b.length
  · simp only [if_pos (show (a.length : Int) = (b.length : Int) by omega)]
    exact eqByteS_l0 a b h ha a.length 0 (by omega) (by omega)
  · simp only [if_neg (show ¬ (a.length : Int) = (b.length : Int) by omega)]
    exact Ev_cast (Ev.now _) (by simp; intro e; exact h (by rw [e]))
theorem eqByteS_same (a b : List Int) (ha : a.length ≤ 4611686018427387904) (e : a = b) : Ev (fun k => laws_eqByteS.f k a b) true := Ev_cast (eqByteS_ev a b ha) (by simp [e])
/-- What a list reads once it was marked from m on. -/
def markedFrom (m : Int) : Nat → List Int
  | 0 => []
  | n + 1 => (m % 256) :: markedFrom (m + 1) n
theorem markedFrom_length (n : Nat) : ∀ m, (markedFrom m n).length = n := by
  induction n with
  | zero => intro m; rfl
  | succ n ih => intro m; simp [markedFrom, ih]
theorem markByteS_l0 (m : Int) : ∀ (d i : Nat) (l : List Int), l.length - i = d → i ≤ l.length → l.length ≤ 1152921504606846976 → 0 ≤ m → m ≤ 1152921504606846976 + i →
    Ev (fun k => laws_markByteS.l0 k l m (i : Int)) (m + d, l.take i ++ markedFrom m d) := by
  intro d
  induction d generalizing m with
  | zero =>
    intro i l hd hi hl h0 hm
    refine Ev_succ ?_
    simp only [laws_markByteS.l0]
    simp only [if_neg (show ¬ (i : Int) < (l.length : Int) by omega)]
    exact Ev_cast (Ev.now _) (by rw [List.take_of_length_le (by omega)]; simp [markedFrom])
  | succ d ih =>
    intro i l hd hi hl h0 hm
    refine Ev_succ ?_
    simp only [laws_markByteS.l0]
    simp only [if_pos (show (i : Int) < (l.length : Int) by omega), if_pos (show 0 ≤ (i : Int) by omega)]
    rw [w64 (n := m + 1) (by omega) (by omega), w64 (by omega) (by omega)]
    refine Ev_cast (ih (m + 1) (i + 1) (l.set i (m % 256)) (by simp; omega) (by simp; omega) (by simpa using hl) (by omega) (by omega)) ?_
    refine Prod.ext (by simp; omega) ?_
    show (l.set i (m % 256)).take (i + 1) ++ markedFrom (m + 1) d = l.take i ++ markedFrom m (d + 1)
    have : (l.set i (m % 256)).take (i + 1) = l.take i ++ [m % 256] := by
      apply List.ext_getElem?
      intro j
      rw [List.getElem?_take, List.getElem?_append, List.getElem?_set]
      have : (l.take i).length = i := by simp; omega
      rw [this]
      by_cases h1 : j < i
      · rw [if_pos (by omega), if_neg (by omega), if_pos h1, List.getElem?_take, if_pos h1]
      · by_cases h2 : j = i
        · subst h2; simp; omega
        · rw [if_neg (by omega), if_neg h1]; simp; omega
    rw [this]; simp [markedFrom]
theorem markByteS_ev (l : List Int) (m : Int) (hl : l.length ≤ 1152921504606846976) (h0 : 0 ≤ m) (hm : m ≤ 1152921504606846976) : Ev (fun k => laws_markByteS.f k l m) (m + l.length, markedFrom m l.length) := by
  unfold laws_markByteS.f
  exact Ev_cast (markByteS_l0 m l.length 0 l (by omega) (by omega) hl h0 (by omega)) (by simp)
theorem toByteS_l0 (l : List Int) : ∀ (d i : Nat) (o : List Int), l.length - i = d → i ≤ l.length → l.length ≤ 1152921504606846976 → o.length = l.length → o.take i = l.take i →
    Ev (fun k => laws_toByteS.l0 k l o (i : Int)) l := by
  intro d
  induction d with
  | zero =>
    intro i o hd hi hl ho ht
    refine Ev_succ ?_
    simp only [laws_toByteS.l0]
    simp only [if_neg (show ¬ (i : Int) < (l.length : Int) by omega)]
    exact Ev_cast (Ev.now _) (by rw [List.take_of_length_le (by omega), List.take_of_length_le (by omega)] at ht; exact ht)
  | succ d ih =>
    intro i o hd hi hl ho ht
    refine Ev_succ ?_
    simp only [laws_toByteS.l0]
    simp only [if_pos (show (i : Int) < (l.length : Int) by omega), if_pos (show 0 ≤ (i : Int) by omega), if_pos (show (i : Int) < (o.length : Int) by omega)]
    rw [rd_lt (by omega), w64 (by omega) (by omega)]
    refine ih (i + 1) _ (by omega) (by omega) hl (by simpa using ho) ?_
    apply List.ext_getElem?
    intro j
    rw [List.getElem?_take, List.getElem?_take]
    by_cases h1 : j < i
    · have := congrArg (fun x => x[j]?) ht
      simp only [List.getElem?_take, if_pos h1] at this
      rw [if_pos (by omega), if_pos (by omega), List.getElem?_set]
      simp only [Int.toNat_natCast]
      rw [if_neg (by omega), this]
    · by_cases h2 : j = i
      · subst h2
        rw [if_pos (by omega), if_pos (by omega)]
        simp [show j < l.length by omega, show j < o.length by omega]
      · rw [if_neg (by omega), if_neg (by omega)]
theorem toByteS_ev (l : List Int) (hl : l.length ≤ 281474976710656) : Ev (fun k => laws_toByteS.f k l) l := by
  unfold laws_toByteS.f
  simp only [if_pos (show 0 ≤ (l.length : Int) by omega), Int.toNat_natCast, if_pos hl]
  exact toByteS_l0 l l.length 0 _ (by omega) (by omega) (by omega) (by simp) (by simp)
/-! ### texts as lists of bytes -/
theorem pw_toList_loop (s : ByteArray) : ∀ (d i : Nat) (r : List UInt8), s.size - i = d → i ≤ s.size → ByteArray.toList.loop s i r = r.reverse ++ s.data.toList.drop i := by
  intro d
  induction d with
  | zero =>
    intro i r hd hi
    rw [ByteArray.toList.loop, if_neg (by omega), List.drop_eq_nil_of_le (by simp; show s.data.size ≤ i; have : s.size = s.data.size := rfl; omega)]
    simp
  | succ d ih =>
    intro i r hd hi
    have hs : s.size = s.data.size := rfl
    rw [ByteArray.toList.loop, if_pos (by omega), ih (i + 1) _ (by omega) (by omega)]
    have : s.data.toList.drop i = s.get! i :: s.data.toList.drop (i + 1) := by
      rw [List.drop_eq_getElem_cons (by simp; omega)]
      congr 1
      simp [ByteArray.get!]
      rw [getElem!_pos s.data i (by omega)]
    rw [this]; simp
theorem toList_data (s : ByteArray) : s.toList = s.data.toList := by
  unfold ByteArray.toList
  rw [pw_toList_loop s s.size 0 [] (by omega) (by omega)]
  simp
theorem strOfNums_list (l : List Int) : (strOfNums l).toList = l.map fun n => UInt8.ofNat n.toNat := by
  rw [toList_data]; simp [strOfNums]
theorem bytes_map_inj : ∀ (a b : List Int), Bytes a → Bytes b → (a.map fun n => UInt8.ofNat n.toNat) = (b.map fun n => UInt8.ofNat n.toNat) → a = b := by
  intro a
  induction a with
  | nil => intro b _ _ h; cases b with
    | nil => rfl
    | cons _ _ => simp at h
  | cons x a ih =>
    intro b ha hb h
    cases b with
    | nil => simp at h
    | cons y b =>
      simp only [List.map_cons, List.cons.injEq] at h
      have h1 := ha x (by simp)
      have h2 := hb y (by simp)
      have h3 := congrArg UInt8.toNat h.1
      simp only [UInt8.toNat_ofNat'] at h3
      rw [ih b (fun z hz => ha z (by simp [hz])) (fun z hz => hb z (by simp [hz])) h.2]
      congr 1
      omega
theorem strOfNums_eq (a b : List Int) (ha : Bytes a) (hb : Bytes b) : ((strOfNums a).toList == (strOfNums b).toList) = decide (a = b) := by
  rw [strOfNums_list, strOfNums_list]
  by_cases h : a = b
  · subst h; simp
  · rw [decide_eq_false h, beq_eq_false_iff_ne]
    exact fun e => h (bytes_map_inj a b ha hb e)
/-! ### marks in texts -/
theorem markText_l0 : ∀ (n : Nat) (s : ByteArray), s.size + n ≤ 4611686018427387904 → ∃ r, Ev (fun k => laws_markText.l0 k (n : Int) s) r := by
  intro n
  induction n using Nat.strongRecOn with
  | ind n ih =>
    intro s h
    by_cases h0 : 0 < n
    · have hsz : ∀ x : Int, (strOfNums [x]).size = 1 := fun x => by simp [strOfNums]; rfl
      obtain ⟨r, hr⟩ := ih (n / 10) (by omega) (strOfNums [(wrap64 (48 + Int.tmod (n : Int) 10)) % 256] ++ s) (by rw [ByteArray.size_append, hsz]; omega)
      refine ⟨r, Ev_succ ?_⟩
      simp only [laws_markText.l0]
      simp only [if_pos (show (n : Int) > 0 by omega), Option.bind_some]
      simp only [hsz, if_pos (show 1 + s.size ≤ 9223372036854775807 by omega)]
      rw [show wrap64 (Int.tdiv (n : Int) 10) = ((n / 10 : Nat) : Int) by rw [Int.tdiv_eq_ediv_of_nonneg (by omega), w64 (by omega) (by omega)]; omega]
      exact hr
    · refine ⟨(⟨#[109]⟩ : ByteArray) ++ s, Ev_succ ?_⟩
      simp only [laws_markText.l0]
      simp only [if_neg (show ¬ (n : Int) > 0 by omega), if_pos (show 1 + s.size ≤ 9223372036854775807 by omega)]
      exact Ev.now _
theorem markText_ev (n : Nat) (h : n ≤ 1152921504606846976) : ∃ r, Ev (fun k => laws_markText.f k (n : Int)) r := by
  unfold laws_markText.f
  by_cases h0 : (n : Int) ≤ 0
  · simp only [if_pos h0]
    exact ⟨_, Ev.now _⟩
  · simp only [if_neg h0]
    exact markText_l0 n _ (by show 0 + n ≤ _; omega)
theorem within_eq (a b c : Int) : impl_within.f a b c = some (decide (b ≤ a ∧ a ≤ c)) := by
  unfold impl_within.f
  by_cases h : a ≥ b
  · rw [if_pos h]; simp; intro; omega
  · rw [if_neg h]; simp; intro; omega
theorem l1In_eq (a b c : Int) : spec_l1In.f a b c = some (decide (b ≤ a ∧ a ≤ c)) := by
  unfold spec_l1In.f
  by_cases h : a ≥ b
  · rw [if_pos h]; simp; intro; omega
  · rw [if_neg h]; simp; intro; omega
/-! ### names -/
def letterB (b : UInt8) : Bool := decide ((97 ≤ b.toNat ∧ b.toNat ≤ 122) ∨ (65 ≤ b.toNat ∧ b.toNat ≤ 90))
def isName (s : ByteArray) : Bool := decide (1 ≤ s.size ∧ s.size ≤ 12) && s.data.toList.all letterB
theorem data_len (s : ByteArray) : s.data.toList.length = s.size := by rw [Array.length_toList]; rfl
theorem bt_lt {s : ByteArray} {i : Nat} (h : i < s.data.toList.length) : bt s (i : Int) = ((s.data.toList[i]).toNat : Int) := by
  unfold bt
  have h2 : (i : Int).toNat < s.size := by rw [Int.toNat_natCast, ← data_len]; exact h
  rw [dif_pos h2]
  simp only [Int.toNat_natCast]
  rfl
theorem drop_while_all {α : Type} (p : α → Bool) : ∀ l : List α, (∀ x ∈ l.dropWhile p, p x = true) → ∀ x ∈ l, p x = true := by
  intro l
  induction l with
  | nil => intro _ x hx; cases hx
  | cons a t ih =>
    intro h x hx
    by_cases ha : p a = true
    · rw [List.dropWhile_cons_of_pos ha] at h
      rcases List.mem_cons.1 hx with rfl | hx
      · exact ha
      · exact ih h x hx
    · rw [List.dropWhile_cons_of_neg ha] at h
      exact h x hx
theorem all_drop_while {α : Type} (p : α → Bool) : ∀ l : List α, (∀ x ∈ l, p x = true) → l.dropWhile p = [] := by
  intro l
  induction l with
  | nil => intro _; rfl
  | cons a t ih =>
    intro h
    rw [List.dropWhile_cons_of_pos (h a (List.mem_cons_self ..))]
    exact ih (fun x hx => h x (List.mem_cons_of_mem _ hx))
theorem trimS_nil (l cs : List UInt8) : (Lib.trimS l cs == []) = l.all (cs.contains ·) := by
  rw [Bool.eq_iff_iff, beq_iff_eq, List.all_eq_true]
  unfold Lib.trimS Lib.trimLeftS Lib.trimRightS
  constructor
  · intro h x hx
    have h1 : ∀ x ∈ (List.dropWhile (fun x => cs.contains x) l.reverse).reverse, cs.contains x = true :=
      drop_while_all _ _ (by rw [h]; intro x hx; cases hx)
    exact drop_while_all _ l.reverse (fun x hx => h1 x (List.mem_reverse.2 hx)) x (List.mem_reverse.2 hx)
  · intro h
    rw [all_drop_while _ l.reverse (fun x hx => h x (List.mem_reverse.1 hx))]
    rfl
def letterBytes : ByteArray := ⟨#[97, 98, 99, 100, 101, 102, 103, 104, 105, 106, 107, 108, 109, 110, 111, 112, 113, 114, 115, 116, 117, 118, 119, 120, 121, 122, 65, 66, 67, 68, 69, 70, 71, 72, 73, 74, 75, 76, 77, 78, 79, 80, 81, 82, 83, 84, 85, 86, 87, 88, 89, 90]⟩
theorem letter_all : ∀ n : Fin 256, letterBytes.data.toList.contains (UInt8.ofNat n.val) = letterB (UInt8.ofNat n.val) := by decide +kernel
theorem letter_eq (b : UInt8) : letterBytes.data.toList.contains b = letterB b := by
  have := letter_all ⟨b.toNat, b.toNat_lt⟩
  simpa using this
theorem trim_letters (s : ByteArray) (hs : s.size ≤ 9223372036854775807) : ∃ t, strings_Trim.f s letterBytes = some t ∧ (t.toList == ([] : List UInt8)) = s.data.toList.all letterB := by
  refine ⟨⟨(Lib.trimS s.data.toList letterBytes.data.toList).toArray⟩, ?_, ?_⟩
  · unfold strings_Trim.f
    rw [if_pos ⟨⟨hs, by decide +kernel⟩, by decide +kernel⟩]
  · rw [Lib.toList_data]
    show (Lib.trimS s.data.toList letterBytes.data.toList == []) = _
    rw [trimS_nil]
    congr 1
    funext b
    exact letter_eq b
theorem impl_isName_eq (s : ByteArray) (hs : s.size ≤ 9223372036854775807) : impl_isName.f s = some (isName s) := by
  unfold impl_isName.f isName
  rw [within_eq, Option.bind_some]
  by_cases h : 1 ≤ (s.size : Int) ∧ (s.size : Int) ≤ 12
  · rw [decide_eq_true h, if_pos rfl, decide_eq_true (show 1 ≤ s.size ∧ s.size ≤ 12 by omega), Bool.true_and]
    obtain ⟨t, h1, h2⟩ := trim_letters s hs
    rw [show (⟨#[97, 98, 99, 100, 101, 102, 103, 104, 105, 106, 107, 108, 109, 110, 111, 112, 113, 114, 115, 116, 117, 118, 119, 120, 121, 122, 65, 66, 67, 68, 69, 70, 71, 72, 73, 74, 75, 76, 77, 78, 79, 80, 81, 82, 83, 84, 85, 86, 87, 88, 89, 90]⟩ : ByteArray) = letterBytes from rfl, h1, Option.bind_some, h2]
  · rw [decide_eq_false h, if_neg (by decide), decide_eq_false (show ¬ (1 ≤ s.size ∧ s.size ≤ 12) by omega), Bool.false_and]
theorem spec_l1Name_ev (s : ByteArray) : Ev (fun k => spec_l1Name.f k s) (isName s) := by
  have loop : s.size ≤ 12 → ∀ d i : Nat, s.size - i = d → i ≤ s.size → Ev (fun k => spec_l1Name.l0 k s (i : Int)) ((s.data.toList.drop i).all letterB) := by
    intro hs d
    have hl := data_len s
    induction d with
    | zero =>
      intro i hd hi
      refine Ev_succ ?_
      simp only [spec_l1Name.l0]
      simp only [if_neg (show ¬ (i : Int) < (s.size : Int) by omega)]
      exact Ev_cast (Ev.now _) (by rw [List.drop_eq_nil_of_le (by omega)]; rfl)
    | succ d ih =>
      intro i hd hi
      have hlt : i < s.data.toList.length := by omega
      refine Ev_succ ?_
      simp only [spec_l1Name.l0]
      simp only [if_pos (show (i : Int) < (s.size : Int) by omega), if_pos (show 0 ≤ (i : Int) by omega)]
      rw [bt_lt hlt, w64 (by omega) (by omega)]
      rw [List.drop_eq_getElem_cons hlt, List.all_cons]
      have nxt := ih (i + 1) (by omega) (by omega)
      rw [show (((i + 1 : Nat)) : Int) = (i : Int) + 1 by simp] at nxt
      by_cases hb : letterB s.data.toList[i] = true
      · rw [hb, Bool.true_and]
        unfold letterB at hb
        replace hb := of_decide_eq_true hb
        by_cases h1 : ((s.data.toList[i]).toNat : Int) ≥ 97
        · simp only [if_pos h1]
          by_cases h2 : ((s.data.toList[i]).toNat : Int) ≤ 122
          · simp only [if_pos h2]; exact nxt
          · exfalso; omega
        · simp only [if_neg h1]
          simp only [if_pos (show ((s.data.toList[i]).toNat : Int) ≥ 65 by omega), if_pos (show ((s.data.toList[i]).toNat : Int) ≤ 90 by omega)]
          exact nxt
      · rw [Bool.eq_false_iff.mpr hb, Bool.false_and]
        unfold letterB at hb
        replace hb := fun h => hb (decide_eq_true h)
        by_cases h1 : ((s.data.toList[i]).toNat : Int) ≥ 97
        · simp only [if_pos h1, if_neg (show ¬ ((s.data.toList[i]).toNat : Int) ≤ 122 from fun h => hb (.inl ⟨by omega, by omega⟩)), if_pos (show ((s.data.toList[i]).toNat : Int) ≥ 65 by omega), if_neg (show ¬ ((s.data.toList[i]).toNat : Int) ≤ 90 by omega)]
          exact Ev.now _
        · simp only [if_neg h1]
          by_cases h3 : ((s.data.toList[i]).toNat : Int) ≥ 65
          · simp only [if_pos h3, if_neg (show ¬ ((s.data.toList[i]).toNat : Int) ≤ 90 from fun h => hb (.inr ⟨by omega, by omega⟩))]
            exact Ev.now _
          · simp only [if_neg h3]
            exact Ev.now _
  unfold spec_l1Name.f isName
  refine Ev.bind (Ev_some (l1In_eq _ _ _)) ?_
  by_cases h : 1 ≤ (s.size : Int) ∧ (s.size : Int) ≤ 12
  · rw [decide_eq_true h, decide_eq_true (show 1 ≤ s.size ∧ s.size ≤ 12 by omega), Bool.true_and]
    simp only [if_true]
    have := loop (by omega) s.size 0 (by omega) (by omega)
    rw [List.drop_zero] at this
    exact this
  · rw [decide_eq_false h, decide_eq_false (show ¬ (1 ≤ s.size ∧ s.size ≤ 12) by omega), Bool.false_and]
    simp only [Bool.false_eq_true, if_false]
    exact Ev.now _
/-! ### keys -/
theorem rd87_lt {l : List S87} {i : Nat} (h : i < l.length) : rd_T87 l (i : Int) = l[i] := by simp [rd_T87, h]
theorem eqKey_same (m : ByteArray) (l : List S87) (s : Int) (hl : l.length ≤ 1048576) : Ev (fun k => laws_eqKey.f k m l s m l s) true := by
  have loop : ∀ (d i : Nat), l.length - i = d → i ≤ l.length → Ev (fun k => laws_eqTagS.l0 k l l (i : Int)) true := by
    intro d
    induction d with
    | zero =>
      intro i hd hi
      refine Ev_succ ?_
      simp only [laws_eqTagS.l0]
      simp only [if_neg (show ¬ (i : Int) < (l.length : Int) by omega)]
      exact Ev.now _
    | succ d ih =>
      intro i hd hi
      refine Ev_succ ?_
      simp only [laws_eqTagS.l0]
      simp only [if_pos (show (i : Int) < (l.length : Int) by omega), if_pos (show 0 ≤ (i : Int) by omega)]
      rw [w64 (by omega) (by omega)]
      refine Ev.bind (Ev_some (show laws_eqTag.f _ _ _ _ = some true by unfold laws_eqTag.f; simp)) ?_
      simp only [if_true]
      exact ih (i + 1) (by omega) (by omega)
  unfold laws_eqKey.f laws_eqTagS.f
  simp only [if_true]
  refine Ev.bind (loop l.length 0 (by omega) (by omega)) ?_
  simp only [if_true]
  exact Ev.now _
def tagOk (l : List S87) (i : Nat) : Bool := isName (rd_T87 l (i : Int)).f0 && isName (rd_T87 l (i : Int)).f1 && (decide (i = 0) || Op.bytesLess (rd_T87 l ((i : Int) - 1)).f0.toList (rd_T87 l (i : Int)).f0.toList)
def tagsFrom (l : List S87) : Nat → Nat → Bool
  | 0, _ => true
  | d + 1, i => tagOk l i && tagsFrom l d (i + 1)
def goodKey (m : ByteArray) (l : List S87) (s : Int) : Bool := isName m && decide (l.length ≤ 4) && decide (0 ≤ s ∧ s ≤ 1000000000) && tagsFrom l l.length 0
theorem spec_GoodKey_ev (m : ByteArray) (l : List S87) (s : Int) (hm : m.size ≤ 1048576) (hl : l.length ≤ 1048576) (hs : ∀ x ∈ l, x.f0.size ≤ 1048576 ∧ x.f1.size ≤ 1048576) : Ev (fun k => spec_GoodKey.f k m l s) (goodKey m l s) := by
  have loop : ∀ d i : Nat, l.length - i = d → i ≤ l.length → Ev (fun k => spec_GoodKey.l0 k l (l.length : Int) (i : Int) m l s) (tagsFrom l d i) := by
    intro d
    induction d with
    | zero =>
      intro i hd hi
      refine Ev_succ ?_
      simp only [spec_GoodKey.l0]
      simp only [if_neg (show ¬ (i : Int) < (l.length : Int) by omega)]
      exact Ev.now _
    | succ d ih =>
      intro i hd hi
      have hlt : i < l.length := by omega
      have hx := hs (l[i]) (List.getElem_mem _)
      rw [← rd87_lt hlt] at hx
      refine Ev_succ ?_
      have nxt := ih (i + 1) (by omega) (by omega)
      rw [show (((i + 1 : Nat)) : Int) = (i : Int) + 1 by simp] at nxt
      simp only [spec_GoodKey.l0]
      simp only [if_pos (show (i : Int) < (l.length : Int) by omega), if_pos (show 0 ≤ (i : Int) by omega)]
      rw [w64 (n := (i : Int) + 1) (by omega) (by omega)]
      refine Ev.bind (spec_l1Name_ev _) ?_
      by_cases h1 : isName (rd_T87 l (i : Int)).f0 = true
      · simp only [if_pos h1]
        refine Ev.bind (spec_l1Name_ev _) ?_
        by_cases h2 : isName (rd_T87 l (i : Int)).f1 = true
        · simp only [if_pos h2]
          by_cases h0 : (i : Int) > 0
          · simp only [if_pos h0]
            rw [w64 (n := (i : Int) - 1) (by omega) (by omega)]
            simp only [if_pos (show 0 ≤ (i : Int) - 1 by omega), if_pos (show (i : Int) - 1 < (l.length : Int) by omega)]
            by_cases h3 : Op.bytesLess (rd_T87 l ((i : Int) - 1)).f0.toList (rd_T87 l (i : Int)).f0.toList = true
            · simp only [if_pos h3]
              refine Ev_cast nxt ?_
              have : tagOk l i = true := by unfold tagOk; rw [h1, h2, h3, Bool.or_true]; rfl
              simp [tagsFrom, this]
            · simp only [if_neg h3]
              refine Ev_cast (Ev.now _) ?_
              have : tagOk l i = false := by unfold tagOk; rw [Bool.eq_false_iff.mpr h3, decide_eq_false (show ¬ i = 0 by omega), Bool.or_false, Bool.and_false]
              simp [tagsFrom, this]
          · simp only [if_neg h0]
            refine Ev_cast nxt ?_
            have : tagOk l i = true := by unfold tagOk; rw [h1, h2, decide_eq_true (show i = 0 by omega)]; rfl
            simp [tagsFrom, this]
        · simp only [if_neg h2]
          refine Ev_cast (Ev.now _) ?_
          have : tagOk l i = false := by unfold tagOk; rw [Bool.eq_false_iff.mpr h2, Bool.and_false, Bool.false_and]
          simp [tagsFrom, this]
      · simp only [if_neg h1]
        refine Ev_cast (Ev.now _) ?_
        have : tagOk l i = false := by unfold tagOk; rw [Bool.eq_false_iff.mpr h1, Bool.false_and, Bool.false_and]
        simp [tagsFrom, this]
  have bad : goodKey m l s = false → Ev (fun k => spec_GoodKey.j0 k true m l s) (goodKey m l s) := by
    intro h
    refine Ev_succ ?_
    simp only [spec_GoodKey.j0, if_true]
    exact Ev_cast (Ev.now _) h.symm
  unfold spec_GoodKey.f
  refine Ev.bind (spec_l1Name_ev _) ?_
  by_cases h1 : isName m = true
  · simp only [if_pos h1]
    by_cases h2 : (l.length : Int) > 4
    · simp only [if_pos h2]
      exact bad (by unfold goodKey; rw [decide_eq_false (show ¬ l.length ≤ 4 by omega), Bool.and_false, Bool.false_and, Bool.false_and])
    · simp only [if_neg h2]
      refine Ev.bind (Ev_some (l1In_eq _ _ _)) ?_
      by_cases h3 : 0 ≤ s ∧ s ≤ 1000000000
      · rw [decide_eq_true h3, Bool.not_true]
        refine Ev_succ ?_
        simp only [spec_GoodKey.j0, Bool.false_eq_true, if_false]
        refine Ev_cast (loop l.length 0 (by omega) (by omega)) ?_
        unfold goodKey
        rw [h1, decide_eq_true (show l.length ≤ 4 by omega), decide_eq_true h3, Bool.true_and, Bool.true_and, Bool.true_and]
      · rw [decide_eq_false h3, Bool.not_false]
        exact bad (by unfold goodKey; rw [decide_eq_false h3, Bool.and_false, Bool.false_and])
  · simp only [if_neg h1]
    exact bad (by unfold goodKey; rw [Bool.eq_false_iff.mpr h1, Bool.false_and, Bool.false_and, Bool.false_and])
theorem impl_GoodKey_ev (m : ByteArray) (l : List S87) (s : Int) (hm : m.size ≤ 1048576) (hl : l.length ≤ 1048576) (hs : ∀ x ∈ l, x.f0.size ≤ 1048576 ∧ x.f1.size ≤ 1048576) : Ev (fun k => impl_GoodKey.f k m l s) (goodKey m l s) := by
  have loop : ∀ d i : Nat, l.length - i = d → i ≤ l.length → Ev (fun k => impl_GoodKey.l0 k l (l.length : Int) (i : Int) m l s) (tagsFrom l d i) := by
    intro d
    induction d with
    | zero =>
      intro i hd hi
      refine Ev_succ ?_
      simp only [impl_GoodKey.l0]
      simp only [if_neg (show ¬ (i : Int) < (l.length : Int) by omega)]
      exact Ev.now _
    | succ d ih =>
      intro i hd hi
      have hlt : i < l.length := by omega
      have hx := hs (l[i]) (List.getElem_mem _)
      rw [← rd87_lt hlt] at hx
      refine Ev_succ ?_
      have nxt := ih (i + 1) (by omega) (by omega)
      rw [show (((i + 1 : Nat)) : Int) = (i : Int) + 1 by simp] at nxt
      simp only [impl_GoodKey.l0]
      simp only [if_pos (show (i : Int) < (l.length : Int) by omega), if_pos (show 0 ≤ (i : Int) by omega)]
      rw [w64 (n := (i : Int) + 1) (by omega) (by omega)]
      refine Ev.bind (Ev_some (impl_isName_eq _ (by omega))) ?_
      by_cases h1 : isName (rd_T87 l (i : Int)).f0 = true
      · simp only [if_pos h1]
        refine Ev.bind (Ev_some (impl_isName_eq _ (by omega))) ?_
        by_cases h2 : isName (rd_T87 l (i : Int)).f1 = true
        · simp only [if_pos h2]
          by_cases h0 : (i : Int) > 0
          · simp only [if_pos h0]
            rw [w64 (n := (i : Int) - 1) (by omega) (by omega)]
            simp only [if_pos (show 0 ≤ (i : Int) - 1 by omega), if_pos (show (i : Int) - 1 < (l.length : Int) by omega)]
            by_cases h3 : Op.bytesLess (rd_T87 l ((i : Int) - 1)).f0.toList (rd_T87 l (i : Int)).f0.toList = true
            · simp only [if_pos h3]
              refine Ev_cast nxt ?_
              have : tagOk l i = true := by unfold tagOk; rw [h1, h2, h3, Bool.or_true]; rfl
              simp [tagsFrom, this]
            · simp only [if_neg h3]
              refine Ev_cast (Ev.now _) ?_
              have : tagOk l i = false := by unfold tagOk; rw [Bool.eq_false_iff.mpr h3, decide_eq_false (show ¬ i = 0 by omega), Bool.or_false, Bool.and_false]
              simp [tagsFrom, this]
          · simp only [if_neg h0]
            refine Ev_cast nxt ?_
            have : tagOk l i = true := by unfold tagOk; rw [h1, h2, decide_eq_true (show i = 0 by omega)]; rfl
            simp [tagsFrom, this]
        · simp only [if_neg h2]
          refine Ev_cast (Ev.now _) ?_
          have : tagOk l i = false := by unfold tagOk; rw [Bool.eq_false_iff.mpr h2, Bool.and_false, Bool.false_and]
          simp [tagsFrom, this]
      · simp only [if_neg h1]
        refine Ev_cast (Ev.now _) ?_
        have : tagOk l i = false := by unfold tagOk; rw [Bool.eq_false_iff.mpr h1, Bool.false_and, Bool.false_and]
        simp [tagsFrom, this]
  have bad : goodKey m l s = false → Ev (fun k => impl_GoodKey.j0 k true m l s) (goodKey m l s) := by
    intro h
    refine Ev_succ ?_
    simp only [impl_GoodKey.j0, if_true]
    exact Ev_cast (Ev.now _) h.symm
  unfold impl_GoodKey.f
  refine Ev.bind (Ev_some (impl_isName_eq _ (by omega))) ?_
  by_cases h1 : isName m = true
  · simp only [if_pos h1]
    by_cases h2 : (l.length : Int) > 4
    · simp only [if_pos h2]
      exact bad (by unfold goodKey; rw [decide_eq_false (show ¬ l.length ≤ 4 by omega), Bool.and_false, Bool.false_and, Bool.false_and])
    · simp only [if_neg h2]
      refine Ev.bind (Ev_some (within_eq _ _ _)) ?_
      by_cases h3 : 0 ≤ s ∧ s ≤ 1000000000
      · rw [decide_eq_true h3, Bool.not_true]
        refine Ev_succ ?_
        simp only [impl_GoodKey.j0, Bool.false_eq_true, if_false]
        refine Ev_cast (loop l.length 0 (by omega) (by omega)) ?_
        unfold goodKey
        rw [h1, decide_eq_true (show l.length ≤ 4 by omega), decide_eq_true h3, Bool.true_and, Bool.true_and, Bool.true_and]
      · rw [decide_eq_false h3, Bool.not_false]
        exact bad (by unfold goodKey; rw [decide_eq_false h3, Bool.and_false, Bool.false_and])
  · simp only [if_neg h1]
    exact bad (by unfold goodKey; rw [Bool.eq_false_iff.mpr h1, Bool.false_and, Bool.false_and, Bool.false_and])
/-! ### PutFixed, ReadFixed -/
def fixedB : Nat → Nat → List Int
  | _, 0 => []
  | n, m + 1 => fixedB (n / 256) m ++ [((n % 256 : Nat) : Int)]
theorem fixedB_length : ∀ (m n : Nat), (fixedB n m).length = m := by
  intro m
  induction m with
  | zero => intro n; rfl
  | succ m ih => intro n; simp [fixedB, ih]
theorem fixedB_bytes : ∀ (m n : Nat), Bytes (fixedB n m) := by
  intro m
  induction m with
  | zero => intro n; exact Bytes.nil
  | succ m ih => intro n; exact (ih _).app (Bytes.one (by omega) (by omega))
theorem two_pow_8 (j : Nat) : (2 : Int) ^ (8 * j) = 256 ^ j := by rw [Int.pow_mul]; rfl
theorem shr8 (n j : Nat) (hj : j ≤ 8) : shr .i64 (n : Int) (8 * (j : Int)) = ((n / 256 ^ j : Nat) : Int) := by
  unfold shr
  rw [show (min (8 * (j : Int)).toNat IntKind.i64.bits) = 8 * j by simp [IntKind.bits]; omega, two_pow_8, Int.natCast_ediv, Int.natCast_pow]
  rfl
theorem spec_l1Fixed_l0 (n : Nat) : ∀ (j m : Nat), m + j ≤ 8 → Ev (fun k => spec_l1Fixed.l0 k (n : Int) (fixedB (n / 256 ^ j) m) ((j : Int) - 1)) (fixedB n (m + j)) := by
  intro j
  induction j with
  | zero =>
    intro m h
    refine Ev_succ ?_
    simp only [spec_l1Fixed.l0, if_neg (show ¬ ((0 : Nat) : Int) - 1 ≥ 0 by omega)]
    exact Ev_cast (Ev.now _) (by simp)
  | succ j ih =>
    intro m h
    refine Ev_succ ?_
    rw [show ((j + 1 : Nat) : Int) - 1 = (j : Int) by omega]
    simp only [spec_l1Fixed.l0]
    rw [w64 (n := 8 * (j : Int)) (by omega) (by omega), wrap_u64, show (8 * (j : Int)) % 18446744073709551616 = 8 * (j : Int) by omega, w64 (by omega) (by omega), shr8 n j (by omega)]
    have hl := fixedB_length m (n / 256 ^ (j + 1))
    simp only [if_pos (show (j : Int) ≥ 0 by omega), if_pos (show 0 ≤ 8 * (j : Int) by omega), if_pos (show (fixedB (n / 256 ^ (j + 1)) m).length < 140737488355328 by omega)]
    have e : fixedB (n / 256 ^ (j + 1)) m ++ [((n / 256 ^ j : Nat) : Int) % 256] = fixedB (n / 256 ^ j) (m + 1) := by
      simp only [fixedB]
      rw [Nat.div_div_eq_div_mul, ← Nat.pow_succ]
      congr 1
    rw [e]
    exact Ev_cast (ih (m + 1) (by omega)) (by congr 1; omega)
theorem fixedB_zero_div (n m : Nat) (h : m = 8 → n < 18446744073709551616) : True := trivial
theorem spec_l1Fixed_ev (n m : Nat) (h : m ≤ 8) : Ev (fun k => spec_l1Fixed.f k (n : Int) (m : Int)) (fixedB n m) := by
  unfold spec_l1Fixed.f
  rw [w64 (by omega) (by omega)]
  exact Ev_cast (spec_l1Fixed_l0 n m 0 (by omega)) (by simp)
/-- What PutFixed tells. -/
def putFixed (n m : Int) : List Int × Bool := if 0 ≤ n ∧ 1 ≤ m ∧ m ≤ 8 ∧ (m < 8 → n.toNat / 256 ^ m.toNat = 0) then (fixedB n.toNat m.toNat, true) else ([], false)
theorem impl_PutFixed_l0 : ∀ (j n : Nat) (tl : List Int), j + tl.length ≤ 8 → Ev (fun k => impl_PutFixed.l0 k (n : Int) (List.replicate j 0 ++ tl) ((j : Int) - 1)) (fixedB n j ++ tl, true) := by
  intro j
  induction j with
  | zero =>
    intro n tl h
    refine Ev_succ ?_
    simp only [impl_PutFixed.l0, if_neg (show ¬ ((0 : Nat) : Int) - 1 ≥ 0 by omega)]
    exact Ev_cast (Ev.now _) (by simp [fixedB])
  | succ j ih =>
    intro n tl h
    refine Ev_succ ?_
    rw [show ((j + 1 : Nat) : Int) - 1 = (j : Int) by omega]
    simp only [impl_PutFixed.l0]
    have hl : (List.replicate (j + 1) (0 : Int) ++ tl).length = j + 1 + tl.length := by simp
    simp only [if_pos (show (j : Int) ≥ 0 by omega), if_pos (show 0 ≤ (j : Int) by omega), if_pos (show (j : Int) < ((List.replicate (j + 1) (0 : Int) ++ tl).length : Int) by omega)]
    rw [w64 (by omega) (by omega)]
    have e : (List.replicate (j + 1) (0 : Int) ++ tl).set ((j : Int)).toNat ((n : Int) % 256) = List.replicate j 0 ++ ((n : Int) % 256 :: tl) := by
      rw [Int.toNat_natCast, List.replicate_succ', List.append_assoc, List.set_append_right _ _ (by simp)]
      simp
    rw [e, show (n : Int) / 256 = ((n / 256 : Nat) : Int) by omega]
    exact Ev_cast (ih (n / 256) ((n : Int) % 256 :: tl) (by simp; omega)) (by simp [fixedB])
theorem impl_PutFixed_ev (n m : Int) (hn : n ≤ 9223372036854775807) : Ev (fun k => impl_PutFixed.f k n m) (putFixed n m) := by
  have bad : Ev (fun k => impl_PutFixed.j0 k n m true) ([], false) := by
    refine Ev_succ ?_
    simp only [impl_PutFixed.j0, if_true]
    exact Ev.now _
  unfold impl_PutFixed.f putFixed
  by_cases h0 : n < 0
  · simp only [if_pos h0]; rw [if_neg (by omega)]; exact bad
  simp only [if_neg h0]
  refine Ev.bind (Ev_some (within_eq _ _ _)) ?_
  by_cases h : 1 ≤ m ∧ m ≤ 8
  · rw [decide_eq_true h]
    simp only [if_true]
    have good : Ev (fun k => impl_PutFixed.j0 k n m false) (fixedB n.toNat m.toNat, true) := by
      refine Ev_succ ?_
      simp only [impl_PutFixed.j0, Bool.false_eq_true, if_false, if_pos (show 0 ≤ m by omega), if_pos (show m.toNat ≤ 281474976710656 by omega)]
      rw [w64 (by omega) (by omega)]
      have := impl_PutFixed_l0 m.toNat n.toNat [] (by simp; omega)
      simp only [List.append_nil] at this
      rwa [show ((n.toNat : Nat) : Int) = n by omega, show ((m.toNat : Nat) : Int) = m by omega] at this
    obtain ⟨N, rfl⟩ := Int.eq_ofNat_of_zero_le (show 0 ≤ n by omega)
    obtain ⟨M, rfl⟩ := Int.eq_ofNat_of_zero_le (show 0 ≤ m by omega)
    simp only [Int.toNat_natCast] at good ⊢
    by_cases h8 : (M : Int) < 8
    · simp only [if_pos h8]
      rw [w64 (n := 8 * (M : Int)) (by omega) (by omega), shr8 N M (by omega)]
      simp only [if_pos (show 0 ≤ 8 * (M : Int) by omega)]
      by_cases hz : N / 256 ^ M = 0
      · rw [if_pos ⟨by omega, h.1, h.2, fun _ => hz⟩, show (((N / 256 ^ M : Nat) : Int) != 0) = false by rw [hz]; rfl]
        exact good
      · rw [if_neg (fun hh => hz (hh.2.2.2 h8)), show (((N / 256 ^ M : Nat) : Int) != 0) = true by simp only [bne_iff_ne]; omega]
        exact bad
    · simp only [if_neg h8]
      rw [if_pos ⟨by omega, h.1, h.2, fun h' => absurd h' h8⟩]
      exact good
  · rw [decide_eq_false h]
    simp only [Bool.false_eq_true, if_false]
    rw [if_neg (by omega)]
    exact bad
/-! ### the bytes of a key -/
theorem kb_app (a b : ByteArray) : bytesOf (a ++ b) = bytesOf a ++ bytesOf b := by simp [bytesOf, ByteArray.data_append]
theorem kb_one (a : UInt8) : bytesOf ⟨#[a]⟩ = [(a.toNat : Int)] := rfl
theorem kb_nums {M : List Int} (h : Bytes M) : bytesOf (strOfNums M) = M := by
  unfold bytesOf strOfNums
  simp only [List.map_map]
  have : ∀ x ∈ M, ((fun b : UInt8 => (b.toNat : Int)) ∘ fun n : Int => UInt8.ofNat n.toNat) x = x := by
    intro x hx
    have := h x hx
    simp only [Function.comp_apply, UInt8.toNat_ofNat']
    omega
  rw [List.map_congr_left this, List.map_id']
theorem kb_inj {a b : ByteArray} (h : bytesOf a = bytesOf b) : a = b := by
  have h1 : a.data.toList = b.data.toList := by
    unfold bytesOf at h
    have inj : ∀ (x y : List UInt8), (x.map fun c => (c.toNat : Int)) = (y.map fun c => (c.toNat : Int)) → x = y := by
      intro x
      induction x with
      | nil => intro y h; cases y with
        | nil => rfl
        | cons _ _ => simp at h
      | cons c x ih =>
        intro y h
        cases y with
        | nil => simp at h
        | cons d y =>
          simp only [List.map_cons, List.cons.injEq] at h
          rw [ih y h.2]
          congr 1
          exact UInt8.toNat.inj (by have := h.1; omega)
    exact inj _ _ h
  cases a; cases b
  simp only [ByteArray.mk.injEq]
  exact Array.toList_inj.1 h1
theorem tagsFrom_all {l : List S87} : ∀ (d i : Nat), tagsFrom l d i = true → ∀ j, i ≤ j → j < i + d → tagOk l j = true := by
  intro d
  induction d with
  | zero => intro i _ j h1 h2; omega
  | succ d ih =>
    intro i h j h1 h2
    simp only [tagsFrom, Bool.and_eq_true] at h
    by_cases e : j = i
    · subst e; exact h.1
    · exact ih (i + 1) h.2 j (by omega) (by omega)
theorem isName_small {s : ByteArray} (h : isName s = true) : s.size ≤ 12 := by
  unfold isName at h
  simp only [Bool.and_eq_true, decide_eq_true_eq] at h
  omega
theorem goodKey_small {m : ByteArray} {l : List S87} {s : Int} (h : goodKey m l s = true) : m.size ≤ 12 ∧ l.length ≤ 4 ∧ (0 ≤ s ∧ s ≤ 1000000000) ∧ ∀ x ∈ l, x.f0.size ≤ 12 ∧ x.f1.size ≤ 12 := by
  unfold goodKey at h
  simp only [Bool.and_eq_true, decide_eq_true_eq] at h
  refine ⟨isName_small h.1.1.1, h.1.1.2, h.1.2, fun x hx => ?_⟩
  obtain ⟨i, hi, rfl⟩ := List.mem_iff_getElem.1 hx
  have h2 := tagsFrom_all _ _ h.2 i (by omega) (by omega)
  unfold tagOk at h2
  rw [rd87_lt hi] at h2
  simp only [Bool.and_eq_true] at h2
  exact ⟨isName_small h2.1.1, isName_small h2.1.2⟩
theorem tg_len : ∀ l : List S87, (∀ x ∈ l, x.f0.size ≤ 12 ∧ x.f1.size ≤ 12) → (impl_keyBytes.tg l).length ≤ 27 * l.length := by
  intro l
  induction l with
  | nil => intro _; simp [impl_keyBytes.tg]
  | cons x t ih =>
    intro h
    have h1 := ih (fun y hy => h y (List.mem_cons_of_mem _ hy))
    have h2 := h x (List.mem_cons_self ..)
    unfold impl_keyBytes.tg at h1 ⊢
    rw [List.flatMap_cons, List.length_append]
    simp only [List.length_append, List.length_cons, List.length_nil, bytesOf_length]
    omega
theorem pre_small {m : ByteArray} {l : List S87} (hm : m.size ≤ 12) (hl : l.length ≤ 4) (hs : ∀ x ∈ l, x.f0.size ≤ 12 ∧ x.f1.size ≤ 12) (i : Nat) : (impl_keyBytes.pre m l i).length ≤ 121 := by
  have h1 := tg_len (l.take i) (fun x hx => hs x (List.mem_of_mem_take hx))
  have h2 : (l.take i).length ≤ 4 := by rw [List.length_take]; omega
  unfold impl_keyBytes.pre
  simp only [List.length_append, List.length_cons, List.length_nil, bytesOf_length]
  omega
/-- the bytes of a good key -/
def keyB (m : ByteArray) (l : List S87) (s : Int) : List Int := impl_keyBytes.pre m l l.length ++ [1] ++ fixedB s.toNat 8
theorem keyB_len {m : ByteArray} {l : List S87} {s : Int} (h : goodKey m l s = true) : (keyB m l s).length ≤ 130 := by
  obtain ⟨h1, h2, _, h3⟩ := goodKey_small h
  have := pre_small h1 h2 h3 l.length
  unfold keyB
  simp only [List.length_append, List.length_cons, List.length_nil, fixedB_length]
  omega
theorem spec_l1Key_ev {m : ByteArray} {l : List S87} {s : Int} (h : goodKey m l s = true) : ∃ r, Ev (fun k => spec_l1Key.f k m l s) r ∧ bytesOf r = keyB m l s := by
  obtain ⟨h1, h2, h3, h4⟩ := goodKey_small h
  have loop : ∀ (d i : Nat) (x : ByteArray), l.length - i = d → i ≤ l.length → bytesOf x = impl_keyBytes.pre m l i → ∃ r, Ev (fun k => spec_l1Key.l0 k x l (l.length : Int) (i : Int) m l s) r ∧ bytesOf r = keyB m l s := by
    intro d
    induction d with
    | zero =>
      intro i x hd hi hx
      have hil : i = l.length := by omega
      subst hil
      have hxl : x.size ≤ 121 := by rw [← bytesOf_length, hx]; exact pre_small h1 h2 h4 _
      have hfb : Bytes (fixedB s.toNat 8) := fixedB_bytes _ _
      have hfs : (strOfNums (fixedB s.toNat 8)).size = 8 := by rw [← bytesOf_length, kb_nums hfb, fixedB_length]
      refine ⟨(x ++ (⟨#[1]⟩ : ByteArray)) ++ strOfNums (fixedB s.toNat 8), Ev_succ ?_, ?_⟩
      · simp only [spec_l1Key.l0]
        simp only [if_neg (show ¬ ((l.length : Nat) : Int) < (l.length : Int) by omega), if_pos (show x.size + 1 ≤ 9223372036854775807 by omega)]
        have hf := spec_l1Fixed_ev s.toNat 8 (by omega)
        rw [show ((s.toNat : Nat) : Int) = s by omega] at hf
        refine Ev.bind hf ?_
        have hsz : (x ++ (⟨#[1]⟩ : ByteArray)).size + (strOfNums (fixedB s.toNat 8)).size ≤ 9223372036854775807 := by
          rw [ByteArray.size_append, hfs]
          show x.size + 1 + 8 ≤ _
          omega
        simp only [if_pos hsz]
        exact Ev.now _
      · rw [kb_app, kb_app, kb_nums hfb, hx]
        rfl
    | succ d ih =>
      intro i x hd hi hx
      have hlt : i < l.length := by omega
      have hxl : x.size ≤ 121 := by rw [← bytesOf_length, hx]; exact pre_small h1 h2 h4 _
      have hn := h4 (l[i]) (List.getElem_mem _)
      rw [← rd87_lt hlt] at hn
      have hp := impl_keyBytes.pre_succ m l i hlt
      obtain ⟨y, hy⟩ : ∃ y, rd_T87 l (i : Int) = y := ⟨_, rfl⟩
      rw [hy] at hn hp
      have s1 : (⟨#[1]⟩ : ByteArray).size = 1 := rfl
      have s2 : (⟨#[2]⟩ : ByteArray).size = 1 := rfl
      have s0 : (⟨#[0]⟩ : ByteArray).size = 1 := rfl
      obtain ⟨r, hr, hr2⟩ := ih (i + 1) (x ++ (((((⟨#[2]⟩ : ByteArray) ++ y.f0) ++ (⟨#[1]⟩ : ByteArray)) ++ y.f1) ++ (⟨#[0]⟩ : ByteArray))) (by omega) (by omega) (by
        rw [hp, ← hx]
        simp only [kb_app, kb_one, List.append_assoc]
        rfl)
      refine ⟨r, Ev_succ ?_, hr2⟩
      simp only [spec_l1Key.l0, hy]
      simp only [if_pos (show (i : Int) < (l.length : Int) by omega), if_pos (show 0 ≤ (i : Int) by omega), if_pos (show 1 + y.f0.size ≤ 9223372036854775807 by omega)]
      simp only [if_pos (show ((⟨#[2]⟩ : ByteArray) ++ y.f0).size + 1 ≤ 9223372036854775807 by rw [ByteArray.size_append, s2]; omega)]
      simp only [if_pos (show (((⟨#[2]⟩ : ByteArray) ++ y.f0) ++ (⟨#[1]⟩ : ByteArray)).size + y.f1.size ≤ 9223372036854775807 by rw [ByteArray.size_append, ByteArray.size_append, s2, s1]; omega)]
      simp only [if_pos (show ((((⟨#[2]⟩ : ByteArray) ++ y.f0) ++ (⟨#[1]⟩ : ByteArray)) ++ y.f1).size + 1 ≤ 9223372036854775807 by rw [ByteArray.size_append, ByteArray.size_append, ByteArray.size_append, s2, s1]; omega)]
      simp only [if_pos (show x.size + (((((⟨#[2]⟩ : ByteArray) ++ y.f0) ++ (⟨#[1]⟩ : ByteArray)) ++ y.f1) ++ (⟨#[0]⟩ : ByteArray)).size ≤ 9223372036854775807 by rw [ByteArray.size_append, ByteArray.size_append, ByteArray.size_append, ByteArray.size_append, s2, s1, s0]; omega)]
      rw [w64 (n := (i : Int) + 1) (by omega) (by omega)]
      exact hr
  obtain ⟨r, hr, hr2⟩ := loop l.length 0 (m ++ (⟨#[0]⟩ : ByteArray)) (by omega) (by omega) (by rw [kb_app, kb_one]; simp [impl_keyBytes.pre, impl_keyBytes.tg])
  refine ⟨r, ?_, hr2⟩
  unfold spec_l1Key.f
  simp only [if_pos (show m.size + 1 ≤ 9223372036854775807 by omega)]
  exact hr
theorem impl_keyBytes_ev {m : ByteArray} {l : List S87} {s : Int} (h : goodKey m l s = true) : Ev (fun k => impl_keyBytes.f k m l s) (keyB m l s) := by
  obtain ⟨h1, h2, h3, h4⟩ := goodKey_small h
  have := pre_small h1 h2 h4 l.length
  unfold impl_keyBytes.f
  refine Ev.bind (impl_PutFixed_ev s 8 (by omega)) ?_
  have e : putFixed s 8 = (fixedB s.toNat 8, true) := by unfold putFixed; rw [if_pos ⟨by omega, by omega, by omega, fun h => absurd h (by omega)⟩]; rfl
  rw [e]
  simp only [if_pos (show (impl_keyBytes.pre m l l.length).length ≤ 2097152 ∧ (fixedB s.toNat 8).length ≤ 8 from ⟨by omega, by rw [fixedB_length]; exact Nat.le_refl _⟩)]
  exact Ev.now _
theorem markTagS_ev (l : List S87) (hl : l.length ≤ 1048576) : ∃ q, Ev (fun k => laws_markTagS.f k l 1) q ∧ 0 ≤ q.1 := by
  have loop : ∀ (d i : Nat) (o : List S87) (a : Nat), o.length - i = d → i ≤ o.length → o.length ≤ 1048576 → a + 2 * d ≤ 10000000 → ∃ q, Ev (fun k => laws_markTagS.l0 k o (a : Int) (i : Int)) q ∧ 0 ≤ q.1 := by
    intro d
    induction d with
    | zero =>
      intro i o a hd hi hl ha
      refine ⟨((a : Int), o), Ev_succ ?_, by show 0 ≤ (a : Int); omega⟩
      simp only [laws_markTagS.l0]
      simp only [if_neg (show ¬ (i : Int) < (o.length : Int) by omega)]
      exact Ev.now _
    | succ d ih =>
      intro i o a hd hi hl ha
      obtain ⟨t1, ht1⟩ := markText_ev a (by omega)
      obtain ⟨t2, ht2⟩ := markText_ev (a + 1) (by omega)
      have e1 : wrap64 ((a : Int) + 1) = ((a + 1 : Nat) : Int) := by rw [w64 (by omega) (by omega)]; omega
      have e2 : wrap64 (((a + 1 : Nat) : Int) + 1) = ((a + 2 : Nat) : Int) := by rw [w64 (by omega) (by omega)]; omega
      have e3 : wrap64 ((i : Int) + 1) = ((i + 1 : Nat) : Int) := by rw [w64 (by omega) (by omega)]; omega
      obtain ⟨q, hq, hq0⟩ := ih (i + 1) ((o.set i ⟨t1, (rd_T87 o (i : Int)).f1⟩).set i ⟨(rd_T87 (o.set i ⟨t1, (rd_T87 o (i : Int)).f1⟩) (i : Int)).f0, t2⟩) (a + 2) (by simp; omega) (by simp; omega) (by simp; omega) (by omega)
      refine ⟨q, Ev_succ ?_, hq0⟩
      simp only [laws_markTagS.l0]
      simp only [if_pos (show (i : Int) < (o.length : Int) by omega), if_pos (show 0 ≤ (i : Int) by omega), Option.bind_some, Int.toNat_natCast, e1, e2, e3]
      refine Ev.bind ht1 ?_
      refine Ev.bind ht2 ?_
      exact hq
  unfold laws_markTagS.f
  exact loop l.length 0 l 1 (by omega) (by omega) hl (by omega)
theorem markKey_ev (m : ByteArray) (l : List S87) (s : Int) (hl : l.length ≤ 1048576) : ∃ q, Ev (fun k => laws_markKey.f k m l s 1) q ∧ 0 ≤ q.1 := by
  obtain ⟨q, hq, h0⟩ := markTagS_ev l hl
  unfold laws_markKey.f
  exact ⟨_, Ev.bind hq (Ev.now _), h0⟩
theorem wraps_u64' (n : Int) (h₀ : 0 ≤ n) (h₁ : n < 2 ^ 64) : IntKind.u64.wrap n = n := by rw [wrap_u64]; omega
def beVal (l : List Int) : Nat := l.foldl (fun n x => n * 256 + x.toNat) 0
theorem beVal_snoc (p : List Int) (c : Int) : beVal (p ++ [c]) = beVal p * 256 + c.toNat := by simp [beVal]
theorem beVal_lt : ∀ (p : List Int), Bytes p → beVal p < 256 ^ p.length := by
  intro p
  have key : ∀ (q : List Int) (n m : Nat), Bytes q → n < 256 ^ m → q.foldl (fun n x => n * 256 + x.toNat) n < 256 ^ (m + q.length) := by
    intro q
    induction q with
    | nil => intro n m _ h; simpa using h
    | cons a q ih =>
      intro n m hb h
      have ha := hb a (by simp)
      have := ih (n * 256 + a.toNat) (m + 1) (fun x hx => hb x (by simp [hx])) (by rw [Nat.pow_succ]; omega)
      simp only [List.foldl_cons, List.length_cons]
      rwa [show m + (q.length + 1) = m + 1 + q.length by omega]
  intro hb
  have := key p 0 0 hb (by simp)
  simpa [beVal] using this
theorem pow256_le {i j : Nat} (h : i ≤ j) : (256 : Nat) ^ i ≤ 256 ^ j := Nat.pow_le_pow_right (by decide) h
/-- What ReadFixed tells. -/
def readFixed (l : List Int) (a m : Int) : Int × Bool := if 1 ≤ m ∧ m ≤ 8 ∧ 0 ≤ a ∧ a + m ≤ l.length ∧ beVal ((l.drop a.toNat).take m.toNat) < 9223372036854775808 then ((beVal ((l.drop a.toNat).take m.toNat) : Int), true) else (0, false)
theorem or_i64 (v x : Nat) (hv : v < 72057594037927936) (hx : x < 256) : Go.bits .or .i64 (wrap64 ((v : Int) * 256)) (wrap64 (x : Int)) = wrap64 ((v * 256 + x : Nat) : Int) := by
  have e1 : BitVec.ofInt 64 (wrap64 ((v : Int) * 256)) = BitVec.ofNat 64 (v * 256) := by
    apply BitVec.eq_of_toNat_eq
    rw [BitVec.toNat_ofInt, BitVec.toNat_ofNat]
    unfold wrap64; omega
  have e2 : BitVec.ofInt 64 (wrap64 (x : Int)) = BitVec.ofNat 64 x := by
    apply BitVec.eq_of_toNat_eq
    rw [BitVec.toNat_ofInt, BitVec.toNat_ofNat]
    unfold wrap64; omega
  have e3 : (BitVec.ofNat 64 (v * 256) ||| BitVec.ofNat 64 x).toNat = v * 256 + x := by
    rw [BitVec.toNat_or, BitVec.toNat_ofNat, BitVec.toNat_ofNat, Nat.mod_eq_of_lt (by omega), Nat.mod_eq_of_lt (by omega)]
    have := Nat.two_pow_add_eq_or_of_lt (i := 8) (b := x) (by omega) v
    rw [show v * 256 = 2 ^ 8 * v by omega, ← this]
  unfold Go.bits
  show IntKind.i64.wrap (((BitVec.ofInt 64 (wrap64 ((v : Int) * 256)) ||| BitVec.ofInt 64 (wrap64 (x : Int))).toNat : Nat) : Int) = _
  rw [e1, e2, e3, IntKind.wrap_i64, wrap64]
theorem or_u64 (v x : Nat) (hv : v < 72057594037927936) (hx : x < 256) : Go.bits .or .u64 (IntKind.u64.wrap ((v : Int) * 256)) (IntKind.u64.wrap (x : Int)) = ((v * 256 + x : Nat) : Int) := by
  rw [wraps_u64' _ (by omega) (by omega), wraps_u64' _ (by omega) (by omega)]
  rw [bits_join .u64 64 (by decide) wraps_u64' 8 _ _ (by omega) (by omega) (by omega) (by omega) (by omega) (by omega)]
  omega
theorem spec_l1Number_l0 : ∀ (t p : List Int), Bytes (p ++ t) → (p ++ t).length ≤ 8 → Ev (fun k => spec_l1Number.l0 k (wrap64 (beVal p)) (p ++ t) ((p ++ t).length : Int) (p.length : Int)) (wrap64 (beVal (p ++ t))) := by
  intro t
  induction t with
  | nil =>
    intro p hb hl
    refine Ev_succ ?_
    simp only [spec_l1Number.l0, List.append_nil, Int.lt_irrefl, if_false]
    exact Ev.now _
  | cons c t ih =>
    intro p hb hl
    refine Ev_succ ?_
    have hpb : Bytes p := fun x hx => hb x (List.mem_append_left _ hx)
    have hcb := hb c (by simp)
    have hv := beVal_lt p hpb
    have hl' : p.length ≤ 7 := by simp at hl; omega
    have hv' : beVal p < 256 ^ 7 := Nat.lt_of_lt_of_le hv (pow256_le hl')
    have hll : (p ++ c :: t).length = p.length + t.length + 1 := by simp; omega
    have hrd : rd (p ++ c :: t) (p.length : Int) = c := by
      rw [rd_lt (by omega)]; simp
    simp only [spec_l1Number.l0]
    simp only [if_pos (show (p.length : Int) < ((p ++ c :: t).length : Int) by omega), if_pos (show 0 ≤ (p.length : Int) by omega), hrd]
    rw [w64 (n := (p.length : Int) + 1) (by omega) (by omega), w64 (n := ((beVal p : Nat) : Int)) (by omega) (by omega)]
    obtain ⟨C, rfl⟩ := Int.eq_ofNat_of_zero_le hcb.1
    rw [or_i64 _ _ (by omega) (by omega)]
    have e : p ++ (C : Int) :: t = (p ++ [(C : Int)]) ++ t := by simp
    have e2 : beVal (p ++ [(C : Int)]) = beVal p * 256 + C := by rw [beVal_snoc]; simp
    rw [e, show (p.length : Int) + 1 = ((p ++ [(C : Int)]).length : Int) by simp, ← e2]
    exact ih _ (by rw [← e]; exact hb) (by rw [← e]; exact hl)
theorem spec_l1Number_ev (l : List Int) (hb : Bytes l) (hl : l.length ≤ 8) : Ev (fun k => spec_l1Number.f k l) (wrap64 (beVal l)) := by
  unfold spec_l1Number.f
  have := spec_l1Number_l0 l [] (by simpa using hb) (by simpa using hl)
  simpa [beVal, w64 (n := 0) (by omega) (by omega)] using this
theorem impl_ReadFixed_l0 : ∀ (t p : List Int), Bytes (p ++ t) → (p ++ t).length ≤ 8 → Ev (fun k => impl_ReadFixed.l0 k (beVal p) (p ++ t) ((p ++ t).length : Int) (p.length : Int)) (if beVal (p ++ t) < 9223372036854775808 then ((beVal (p ++ t) : Int), true) else (0, false)) := by
  intro t
  induction t with
  | nil =>
    intro p hb hl
    refine Ev_succ ?_
    simp only [impl_ReadFixed.l0, List.append_nil, Int.lt_irrefl, if_false]
    by_cases h : beVal p < 9223372036854775808
    · rw [if_pos h, w64 (by omega) (by omega)]
      simp only [if_pos (show (beVal p : Int) / 9223372036854775808 = 0 by omega)]
      exact Ev.now _
    · rw [if_neg h]
      simp only [if_neg (show ¬ (beVal p : Int) / 9223372036854775808 = 0 by omega)]
      exact Ev.now _
  | cons c t ih =>
    intro p hb hl
    refine Ev_succ ?_
    have hpb : Bytes p := fun x hx => hb x (List.mem_append_left _ hx)
    have hcb := hb c (by simp)
    have hv := beVal_lt p hpb
    have hl' : p.length ≤ 7 := by simp at hl; omega
    have hv' : beVal p < 256 ^ 7 := Nat.lt_of_lt_of_le hv (pow256_le hl')
    have hll : (p ++ c :: t).length = p.length + t.length + 1 := by simp; omega
    have hrd : rd (p ++ c :: t) (p.length : Int) = c := by
      rw [rd_lt (by omega)]; simp
    simp only [impl_ReadFixed.l0]
    simp only [if_pos (show (p.length : Int) < ((p ++ c :: t).length : Int) by omega), if_pos (show 0 ≤ (p.length : Int) by omega), hrd]
    rw [w64 (n := (p.length : Int) + 1) (by omega) (by omega)]
    obtain ⟨C, rfl⟩ := Int.eq_ofNat_of_zero_le hcb.1
    rw [or_u64 _ _ (by omega) (by omega)]
    have e : p ++ (C : Int) :: t = (p ++ [(C : Int)]) ++ t := by simp
    have e2 : beVal (p ++ [(C : Int)]) = beVal p * 256 + C := by rw [beVal_snoc]; simp
    rw [e, show (p.length : Int) + 1 = ((p ++ [(C : Int)]).length : Int) by simp, ← e2]
    exact ih _ (by rw [← e]; exact hb) (by rw [← e]; exact hl)
theorem impl_ReadFixed_ev (l : List Int) (hb : Bytes l) (hl : l.length ≤ 281474976710656) (a m : Int) (ha : -9223372036854775808 ≤ a ∧ a ≤ 9223372036854775807) (hm : -9223372036854775808 ≤ m ∧ m ≤ 9223372036854775807) :
    Ev (fun k => impl_ReadFixed.f k l a m) (readFixed l a m) := by
  have bad : Ev (fun k => impl_ReadFixed.j0 k l a m true) (0, false) := by
    refine Ev_succ ?_
    simp only [impl_ReadFixed.j0, if_true]
    exact Ev.now _
  unfold impl_ReadFixed.f readFixed
  refine Ev.bind (Ev_some (within_eq _ _ _)) ?_
  by_cases h : 1 ≤ m ∧ m ≤ 8
  · rw [decide_eq_true h]
    simp only [if_true]
    refine Ev.bind (Ev_some (within_eq _ _ _)) ?_
    rw [w64 (by omega) (by omega)]
    by_cases h2 : 0 ≤ a ∧ a ≤ (l.length : Int) - m
    · rw [decide_eq_true h2, Bool.not_true]
      refine Ev_succ ?_
      simp only [impl_ReadFixed.j0, Bool.false_eq_true, if_false]
      rw [w64 (by omega) (by omega)]
      simp only [if_pos (show 0 ≤ a by omega), if_pos (show a ≤ a + m by omega), if_pos (show a + m ≤ (l.length : Int) by omega)]
      have hcut : (l.take (a + m).toNat).drop a.toNat = (l.drop a.toNat).take m.toNat := by
        rw [show (a + m).toNat = a.toNat + m.toNat by omega, ← List.take_drop]
      rw [hcut]
      have hcb : Bytes ((l.drop a.toNat).take m.toNat) := (hb.drop _).take _
      have hcl : ((l.drop a.toNat).take m.toNat).length = m.toNat := by simp; omega
      have := impl_ReadFixed_l0 ((l.drop a.toNat).take m.toNat) [] (by simpa using hcb) (by simp only [List.nil_append]; omega)
      simp only [List.nil_append, List.length_nil, Int.natCast_zero] at this
      refine Ev_cast this ?_
      by_cases h3 : beVal ((l.drop a.toNat).take m.toNat) < 9223372036854775808
      · rw [if_pos h3, if_pos ⟨h.1, h.2, by omega, by omega, h3⟩]
      · rw [if_neg h3, if_neg (fun hh => h3 hh.2.2.2.2)]
    · rw [decide_eq_false h2, Bool.not_false, if_neg (by omega)]
      exact bad
  · rw [decide_eq_false h]
    simp only [Bool.false_eq_true, if_false]
    rw [if_neg (by omega)]
    exact bad
/-! ### reading a key -/
abbrev KeyR : Type := ByteArray × List S87 × Int × Bool
def badK : KeyR := ((⟨#[]⟩ : ByteArray), [], 0, false)
def finK (l : List Int) (m : ByteArray) (t : List S87) (s : Int) : KeyR := if goodKey m t s = true ∧ keyB m t s = l then (m, t, s, true) else badK
def SoundK (l : List Int) (r : KeyR) : Prop := r = badK ∨ ∃ m t s, r = (m, t, s, true) ∧ goodKey m t s = true ∧ keyB m t s = l
theorem finK_sound (l : List Int) (m : ByteArray) (t : List S87) (s : Int) : SoundK l (finK l m t s) := by
  unfold finK
  split
  · rename_i h; exact .inr ⟨m, t, s, rfl, h.1, h.2⟩
  · exact .inl rfl
theorem finK_good {m : ByteArray} {t : List S87} {s : Int} (h : goodKey m t s = true) : finK (keyB m t s) m t s = (m, t, s, true) := if_pos ⟨h, rfl⟩
-- texts as lists of bytes
def T (l : List UInt8) : ByteArray := ⟨l.toArray⟩
theorem T_list (l : List UInt8) : (T l).data.toList = l := rfl
theorem T_size (l : List UInt8) : (T l).size = l.length := by show l.toArray.size = _; simp
theorem T_self (s : ByteArray) : T s.data.toList = s := by cases s; rfl
theorem T_toList (l : List UInt8) : (T l).toList = l := by rw [toList_data]; rfl
theorem ext_take (l : List UInt8) (n : Nat) : (T l).extract 0 n = T (l.take n) := by
  unfold T
  apply ByteArray.ext
  rw [ByteArray.data_extract]
  apply Array.toList_inj.1
  simp [List.extract_eq_take_drop]
theorem ext_drop (l : List UInt8) (n : Nat) : (T l).extract n (T l).size = T (l.drop n) := by
  rw [T_size]
  unfold T
  apply ByteArray.ext
  rw [ByteArray.data_extract]
  apply Array.toList_inj.1
  simp only [Array.toList_extract, List.extract_eq_take_drop]
  rw [List.take_of_length_le (by rw [List.length_drop]; omega)]
theorem idx_hit (c : UInt8) (b : List UInt8) : ∀ a : List UInt8, c ∉ a → Lib.indexByte (a ++ c :: b) c = (a.length : Int) := by
  intro a
  induction a with
  | nil => intro _; simp [Lib.indexByte]
  | cons x a ih =>
    intro h
    have h1 : ¬ (x == c) = true := by simp only [beq_iff_eq]; intro e; exact h (by rw [e]; exact List.mem_cons_self ..)
    have h2 := ih (fun e => h (List.mem_cons_of_mem _ e))
    rw [List.cons_append, Lib.indexByte, if_neg h1, h2]
    rw [if_neg (by simp only [beq_iff_eq]; omega)]
    simp
theorem idx_miss (c : UInt8) : ∀ a : List UInt8, c ∉ a → Lib.indexByte a c = -1 := by
  intro a
  induction a with
  | nil => intro _; rfl
  | cons x a ih =>
    intro h
    have h1 : ¬ (x == c) = true := by simp only [beq_iff_eq]; intro e; exact h (by rw [e]; exact List.mem_cons_self ..)
    have h2 := ih (fun e => h (List.mem_cons_of_mem _ e))
    rw [Lib.indexByte, if_neg h1, h2]
    rfl
theorem cut_hit (a b : List UInt8) (c : UInt8) (h : c ∉ a) (hl : a.length + b.length ≤ 1152921504606846976) : strings_Cut.f (T (a ++ c :: b)) (⟨#[c]⟩ : ByteArray) = some (T a, T b, true) := by
  have hi : stringslite_Index.f (T (a ++ c :: b)) (⟨#[c]⟩ : ByteArray) = some (a.length : Int) := by
    unfold stringslite_Index.f
    rw [if_pos (show (⟨#[c]⟩ : ByteArray).data.size = 1 from rfl)]
    exact congrArg some (idx_hit c b a h)
  have hz : (T (a ++ c :: b)).size = a.length + b.length + 1 := by rw [T_size]; simp; omega
  have h1 : (⟨#[c]⟩ : ByteArray).size = 1 := rfl
  unfold strings_Cut.f stringslite_Cut.f
  rw [hi, Option.bind_some, h1, w64 (n := (a.length : Int) + ((1 : Nat) : Int)) (by omega) (by omega)]
  rw [if_pos (by omega), if_pos (by omega), if_pos (by omega), if_pos (by omega), if_pos (by omega), Option.bind_some]
  rw [Int.toNat_natCast, show ((a.length : Int) + ((1 : Nat) : Int)).toNat = a.length + 1 by omega, ext_take, ext_drop]
  simp
theorem cut_miss (a : List UInt8) (c : UInt8) (h : c ∉ a) : strings_Cut.f (T a) (⟨#[c]⟩ : ByteArray) = some (T a, (⟨#[]⟩ : ByteArray), false) := by
  have hi : stringslite_Index.f (T a) (⟨#[c]⟩ : ByteArray) = some (-1) := by
    unfold stringslite_Index.f
    rw [if_pos (show (⟨#[c]⟩ : ByteArray).data.size = 1 from rfl)]
    exact congrArg some (idx_miss c a h)
  unfold strings_Cut.f stringslite_Cut.f
  rw [hi, Option.bind_some, if_neg (by omega), Option.bind_some]
theorem cut_any (s : ByteArray) (c : UInt8) (hs : s.size ≤ 1048576) : ∃ a b f, strings_Cut.f s (⟨#[c]⟩ : ByteArray) = some (a, b, f) ∧ a.size ≤ s.size ∧ b.size ≤ s.size := by
  have hl : s.data.toList.length = s.size := data_len s
  by_cases h : c ∈ s.data.toList
  · obtain ⟨a, b, e, hn⟩ := List.eq_append_cons_of_mem h
    have h2 := cut_hit a b c hn (by rw [e] at hl; simp at hl; omega)
    rw [← e, T_self] at h2
    rw [e] at hl
    simp at hl
    exact ⟨_, _, _, h2, by rw [T_size]; omega, by rw [T_size]; omega⟩
  · have h2 := cut_miss _ c h
    rw [T_self] at h2
    exact ⟨_, _, _, h2, Nat.le_refl _, Nat.zero_le _⟩
theorem trim_two (l : List UInt8) (hl : l.length ≤ 1152921504606846976) : strings_TrimPrefix.f (T (2 :: l)) (⟨#[2]⟩ : ByteArray) = some (T l) := by
  have h1 : (⟨#[2]⟩ : ByteArray).size = 1 := rfl
  have hz : (T (2 :: l)).size = l.length + 1 := by rw [T_size]; rfl
  unfold strings_TrimPrefix.f stringslite_TrimPrefix.f stringslite_HasPrefix.f
  rw [h1, if_pos (by omega), if_pos (by omega), if_pos (by omega), Option.bind_some]
  rw [show ((1 : Nat) : Int).toNat = 1 from rfl, ext_take, ext_drop, T_toList]
  rw [show ((2 :: l).take 1 == (⟨#[2]⟩ : ByteArray).toList) = true from by rw [toList_data]; simp, if_pos rfl, if_pos (by omega), if_pos (by omega)]
  rfl
theorem trim_any (s : ByteArray) (hs : s.size ≤ 1048576) : ∃ t, strings_TrimPrefix.f s (⟨#[2]⟩ : ByteArray) = some t ∧ t.size ≤ s.size := by
  have h1 : (⟨#[2]⟩ : ByteArray).size = 1 := rfl
  unfold strings_TrimPrefix.f stringslite_TrimPrefix.f stringslite_HasPrefix.f
  rw [h1]
  by_cases hz : (s.size : Int) ≥ ((1 : Nat) : Int)
  · rw [if_pos hz, if_pos (by omega), if_pos (by omega), Option.bind_some]
    by_cases hp : ((s.extract 0 (((1 : Nat) : Int).toNat)).toList == (⟨#[2]⟩ : ByteArray).toList) = true
    · rw [hp, if_pos rfl, if_pos (by omega), if_pos (by omega)]
      refine ⟨_, rfl, ?_⟩
      rw [ByteArray.size_extract]
      omega
    · rw [if_neg hp]
      exact ⟨_, rfl, Nat.le_refl _⟩
  · rw [if_neg hz, Option.bind_some, if_neg (by decide)]
    exact ⟨_, rfl, Nat.le_refl _⟩
theorem bytesOf_isBytes (s : ByteArray) : Bytes (bytesOf s) := by
  intro x hx
  unfold bytesOf at hx
  obtain ⟨b, _, rfl⟩ := List.mem_map.1 hx
  have := b.toNat_lt
  omega
theorem tg_bytes : ∀ l : List S87, Bytes (impl_keyBytes.tg l) := by
  intro l
  induction l with
  | nil => exact Bytes.nil
  | cons x t ih =>
    unfold impl_keyBytes.tg at ih ⊢
    rw [List.flatMap_cons]
    exact Bytes.app (Bytes.app (Bytes.app (Bytes.app (Bytes.app (Bytes.one (by omega) (by omega)) (bytesOf_isBytes _)) (Bytes.one (by omega) (by omega))) (bytesOf_isBytes _)) (Bytes.one (by omega) (by omega))) ih
theorem pre_bytes (m : ByteArray) (l : List S87) (i : Nat) : Bytes (impl_keyBytes.pre m l i) := Bytes.app (Bytes.app (bytesOf_isBytes _) (Bytes.one (by omega) (by omega))) (tg_bytes _)
theorem keyB_bytes (m : ByteArray) (l : List S87) (s : Int) : Bytes (keyB m l s) := Bytes.app (Bytes.app (pre_bytes _ _ _) (Bytes.one (by omega) (by omega))) (fixedB_bytes _ _)
def okSizes (t : List S87) : Prop := ∀ x ∈ t, x.f0.size ≤ 1048576 ∧ x.f1.size ≤ 1048576
theorem impl_fin (l : List Int) (hl : Bytes l) (x m : ByteArray) (t : List S87) (s : Int) (hm : m.size ≤ 1048576) (ht : t.length ≤ 5) (hs : okSizes t) : Ev (fun k => impl_ReadKey.j2 k l x false m t s) (finK l m t s) := by
  refine Ev_succ ?_
  simp only [impl_ReadKey.j2, Bool.false_eq_true, if_false]
  refine Ev.bind (impl_GoodKey_ev m t s hm (by omega) hs) ?_
  unfold finK
  by_cases hg : goodKey m t s = true
  · simp only [if_pos hg]
    refine Ev.bind (impl_keyBytes_ev hg) ?_
    have hb : bytes_Equal.f (keyB m t s) l = some (decide (keyB m t s = l)) := by unfold bytes_Equal.f; rw [strOfNums_eq _ _ (keyB_bytes _ _ _) hl]
    refine Ev.bind (Ev_some hb) ?_
    by_cases he : keyB m t s = l
    · rw [if_pos (show goodKey m t s = true ∧ keyB m t s = l from ⟨hg, he⟩), decide_eq_true he]
      simp only [if_true]
      exact Ev.now _
    · rw [if_neg (show ¬ (goodKey m t s = true ∧ keyB m t s = l) from fun h => he h.2), decide_eq_false he]
      simp only [Bool.false_eq_true, if_false]
      exact Ev.now _
  · simp only [if_neg hg]
    rw [if_neg (show ¬ (goodKey m t s = true ∧ keyB m t s = l) from fun h => hg h.1)]
    exact Ev.now _
theorem impl_loop (l : List Int) (hl : Bytes l) : ∀ (n : Nat) (x m : ByteArray) (t : List S87) (s : Int), 5 - t.length = n → t.length ≤ 5 → x.size ≤ 1048576 → m.size ≤ 1048576 → okSizes t → ∃ r, Ev (fun k => impl_ReadKey.l0 k l x m t s) r ∧ SoundK l r := by
  intro n
  induction n with
  | zero =>
    intro x m t s hn ht hx hm hs
    refine ⟨finK l m t s, Ev_succ ?_, finK_sound _ _ _ _⟩
    simp only [impl_ReadKey.l0]
    by_cases h0 : x.toList = []
    · simp only [if_pos h0]
      exact impl_fin l hl x m t s hm ht hs
    · simp only [if_neg h0]
      rw [decide_eq_false (show ¬ (t.length : Int) ≤ 4 by omega)]
      exact impl_fin l hl x m t s hm ht hs
  | succ n ih =>
    intro x m t s hn ht hx hm hs
    by_cases h0 : x.toList = []
    · refine ⟨finK l m t s, Ev_succ ?_, finK_sound _ _ _ _⟩
      simp only [impl_ReadKey.l0]
      simp only [if_pos h0]
      exact impl_fin l hl x m t s hm ht hs
    · obtain ⟨a, b, f, h1, ha, hb⟩ := cut_any x 0 hx
      obtain ⟨p, h2, hp⟩ := trim_any a (by omega)
      obtain ⟨c, d, g, h3, hc, hd⟩ := cut_any p 1 (by omega)
      obtain ⟨r, hr, hr2⟩ := ih b m (t ++ [⟨c, d⟩]) s (by simp; omega) (by simp; omega) (by omega) hm (fun y hy => by
        rcases List.mem_append.1 hy with h | h
        · exact hs y h
        · rw [List.mem_singleton.1 h]; exact ⟨by show c.size ≤ _; omega, by show d.size ≤ _; omega⟩)
      refine ⟨r, Ev_succ ?_, hr2⟩
      simp only [impl_ReadKey.l0]
      simp only [if_neg h0]
      rw [decide_eq_true (show (t.length : Int) ≤ 4 by omega)]
      refine Ev_succ ?_
      simp only [impl_ReadKey.j2, if_true]
      refine Ev.bind (Ev_some h1) ?_
      refine Ev.bind (Ev_some h2) ?_
      refine Ev.bind (Ev_some h3) ?_
      simp only [if_pos (show t.length < 4398046511104 by omega)]
      exact hr
theorem strOfNums_small (l : List Int) : (strOfNums l).size = l.length := by show ((l.map _).toArray).size = _; simp
theorem impl_ReadKey_any (l : List Int) (hb : Bytes l) (hl : l.length ≤ 1048576) : ∃ r, Ev (fun k => impl_ReadKey.f k l) r ∧ SoundK l r := by
  have bad : ∀ a s, Ev (fun k => impl_ReadKey.j0 k l a s true) badK := by
    intro a s
    refine Ev_succ ?_
    simp only [impl_ReadKey.j0, if_true]
    exact Ev.now _
  unfold impl_ReadKey.f
  rw [w64 (n := (l.length : Int) - 9) (by omega) (by omega), w64 (n := (l.length : Int) - 9 + 1) (by omega) (by omega)]
  have h1 := impl_ReadFixed_ev l hb (by omega) ((l.length : Int) - 9 + 1) 8 (by omega) (by omega)
  generalize readFixed l ((l.length : Int) - 9 + 1) 8 = q at h1
  by_cases h2 : q.2 = true
  · by_cases h3 : (l.length : Int) - 9 < 0
    · refine ⟨badK, Ev.bind h1 ?_, .inl rfl⟩
      simp only [if_pos h2]
      rw [decide_eq_true h3]
      exact bad _ _
    · obtain ⟨a, b, f, h4, ha, hb2⟩ := cut_any (strOfNums (l.take ((l.length : Int) - 9).toNat)) 0 (by rw [strOfNums_small, List.length_take]; omega)
      rw [strOfNums_small, List.length_take] at ha hb2
      obtain ⟨r, hr, hr2⟩ := impl_loop l hb 5 b a [] q.1 rfl (by simp) (by omega) (by omega) (fun y hy => by cases hy)
      refine ⟨r, Ev.bind h1 ?_, hr2⟩
      simp only [if_pos h2]
      rw [decide_eq_false h3]
      refine Ev_succ ?_
      simp only [impl_ReadKey.j0, Bool.false_eq_true, if_false]
      simp only [if_pos (show 0 ≤ (l.length : Int) - 9 by omega), if_pos (show (l.length : Int) - 9 ≤ (l.length : Int) by omega)]
      refine Ev.bind (Ev_some h4) ?_
      exact hr
  · refine ⟨badK, Ev.bind h1 ?_, .inl rfl⟩
    simp only [if_neg h2]
    exact bad _ _
-- what the bytes of a good key are read as
def tgU (t : List S87) : List UInt8 := t.flatMap (fun y => 2 :: (y.f0.data.toList ++ 1 :: (y.f1.data.toList ++ [0])))
def U (M : List Int) : List UInt8 := M.map fun n => UInt8.ofNat n.toNat
theorem strOfNums_T (M : List Int) : strOfNums M = T (U M) := rfl
theorem U_app (a b : List Int) : U (a ++ b) = U a ++ U b := List.map_append ..
theorem U_bytes (s : ByteArray) : U (bytesOf s) = s.data.toList := by
  unfold U bytesOf
  rw [List.map_map]
  conv => rhs; rw [← List.map_id s.data.toList]
  apply List.map_congr_left
  intro x _
  simp
theorem U_tg (t : List S87) : U (impl_keyBytes.tg t) = tgU t := by
  induction t with
  | nil => rfl
  | cons x t ih =>
    unfold impl_keyBytes.tg tgU at ih ⊢
    rw [List.flatMap_cons, List.flatMap_cons, U_app, ih]
    congr 1
    simp only [U_app, U_bytes]
    simp [U]
theorem letter_big {b : UInt8} (h : letterB b = true) : 65 ≤ b.toNat := by unfold letterB at h; simp at h; omega
theorem name_no {s : ByteArray} (h : isName s = true) (c : UInt8) (hc : c.toNat < 65) : c ∉ s.data.toList := by
  unfold isName at h
  simp only [Bool.and_eq_true, List.all_eq_true] at h
  intro hm
  have := letter_big (h.2 c hm)
  omega
theorem goodKey_names {m : ByteArray} {l : List S87} {s : Int} (h : goodKey m l s = true) : isName m = true ∧ ∀ x ∈ l, isName x.f0 = true ∧ isName x.f1 = true := by
  unfold goodKey at h
  simp only [Bool.and_eq_true, decide_eq_true_eq] at h
  refine ⟨h.1.1.1, fun x hx => ?_⟩
  obtain ⟨i, hi, rfl⟩ := List.mem_iff_getElem.1 hx
  have h2 := tagsFrom_all _ _ h.2 i (by omega) (by omega)
  unfold tagOk at h2
  rw [rd87_lt hi] at h2
  simp only [Bool.and_eq_true] at h2
  exact ⟨h2.1.1, h2.1.2⟩
theorem tgU_len {t : List S87} (h : ∀ x ∈ t, x.f0.size ≤ 12 ∧ x.f1.size ≤ 12) : (tgU t).length ≤ 27 * t.length := by
  have := tg_len t h
  rw [← U_tg]
  unfold U
  rw [List.length_map]
  exact this
theorem impl_tags (l : List Int) (hl : Bytes l) (m : ByteArray) (t : List S87) (s : Int) (hm : m.size ≤ 12) (ht : t.length ≤ 4) (hn : ∀ x ∈ t, isName x.f0 = true ∧ isName x.f1 = true) : ∀ (q p : List S87), t = p ++ q → Ev (fun k => impl_ReadKey.l0 k l (T (tgU q)) m p s) (finK l m t s) := by
  have sm : ∀ x ∈ t, x.f0.size ≤ 12 ∧ x.f1.size ≤ 12 := fun x hx => ⟨isName_small (hn x hx).1, isName_small (hn x hx).2⟩
  intro q
  induction q with
  | nil =>
    intro p hp
    rw [List.append_nil] at hp
    subst hp
    refine Ev_succ ?_
    simp only [impl_ReadKey.l0]
    simp only [if_pos (show (T (tgU [])).toList = [] from by rw [T_toList]; rfl)]
    exact impl_fin l hl _ m t s (by omega) (by omega) (fun x hx => by have := sm x hx; omega)
  | cons y q ih =>
    intro p hp
    have hy : y ∈ t := by rw [hp]; simp
    have hlen := congrArg List.length hp
    simp only [List.length_append, List.length_cons] at hlen
    have hsm := sm y hy
    have hq := tgU_len (t := q) (fun x hx => sm x (by rw [hp]; simp [hx]))
    have e : tgU (y :: q) = (2 :: (y.f0.data.toList ++ 1 :: y.f1.data.toList)) ++ 0 :: tgU q := by
      unfold tgU
      rw [List.flatMap_cons]
      simp
    have n0 := name_no (hn y hy).1
    have n1 := name_no (hn y hy).2
    have l0 : y.f0.data.toList.length = y.f0.size := data_len _
    have l1 : y.f1.data.toList.length = y.f1.size := data_len _
    have h1 := cut_hit (2 :: (y.f0.data.toList ++ 1 :: y.f1.data.toList)) (tgU q) 0 (by
      simp only [List.mem_cons, List.mem_append, not_or]
      exact ⟨by decide, n0 0 (by decide), by decide, n1 0 (by decide)⟩) (by simp only [List.length_cons, List.length_append]; omega)
    have h2 := trim_two (y.f0.data.toList ++ 1 :: y.f1.data.toList) (by simp only [List.length_cons, List.length_append]; omega)
    have h3 := cut_hit y.f0.data.toList y.f1.data.toList 1 (n0 1 (by decide)) (by omega)
    rw [T_self, T_self] at h3
    refine Ev_succ ?_
    simp only [impl_ReadKey.l0]
    simp only [if_neg (show ¬ (T (tgU (y :: q))).toList = [] from by rw [T_toList, e]; simp)]
    rw [decide_eq_true (show (p.length : Int) ≤ 4 by omega)]
    refine Ev_succ ?_
    simp only [impl_ReadKey.j2, if_true]
    rw [e]
    refine Ev.bind (Ev_some h1) ?_
    refine Ev.bind (Ev_some h2) ?_
    refine Ev.bind (Ev_some h3) ?_
    simp only [if_pos (show p.length < 4398046511104 by omega)]
    exact ih (p ++ [y]) (by rw [hp]; simp)
theorem beVal_fixedB : ∀ (m n : Nat), n < 256 ^ m → beVal (fixedB n m) = n := by
  intro m
  induction m with
  | zero => intro n h; simp at h; subst h; rfl
  | succ m ih =>
    intro n h
    rw [fixedB, beVal_snoc, ih (n / 256) (by rw [Nat.pow_succ] at h; omega)]
    simp
    omega
theorem keyB_drop {m : ByteArray} {t : List S87} {s : Int} (n : Nat) (hn : n = (impl_keyBytes.pre m t t.length).length) : (keyB m t s).take n = impl_keyBytes.pre m t t.length ∧ (keyB m t s).drop (n + 1) = fixedB s.toNat 8 ∧ (keyB m t s).length = n + 9 := by
  unfold keyB
  subst hn
  refine ⟨by simp, ?_, by simp [fixedB_length]⟩
  rw [List.drop_append, List.drop_eq_nil_of_le (by simp)]
  simp
theorem impl_ReadKey_good {m : ByteArray} {t : List S87} {s : Int} (h : goodKey m t s = true) : Ev (fun k => impl_ReadKey.f k (keyB m t s)) (m, t, s, true) := by
  obtain ⟨h1, h2, h3, h4⟩ := goodKey_small h
  obtain ⟨n1, n2⟩ := goodKey_names h
  obtain ⟨d1, d2, d3⟩ := keyB_drop (m := m) (t := t) (s := s) _ rfl
  have hp := pre_small h1 h2 h4 t.length
  have hb := keyB_bytes m t s
  have hfin := finK_good h
  generalize hN : (impl_keyBytes.pre m t t.length).length = N at d1 d2 d3 hp
  have hrf : readFixed (keyB m t s) (N + 1) 8 = (s, true) := by
    have hv : beVal (((keyB m t s).drop (((N : Int) + 1).toNat)).take ((8 : Int).toNat)) = s.toNat := by
      rw [show ((N : Int) + 1).toNat = N + 1 by omega, d2, show ((8 : Int).toNat) = 8 from rfl, List.take_of_length_le (by rw [fixedB_length]; omega)]
      exact beVal_fixedB 8 _ (by omega)
    unfold readFixed
    rw [if_pos ⟨by omega, by omega, by omega, by omega, by rw [hv]; omega⟩, hv]
    congr 1
    omega
  unfold impl_ReadKey.f
  rw [d3, w64 (n := ((N + 9 : Nat) : Int) - 9) (by omega) (by omega), show ((N + 9 : Nat) : Int) - 9 = (N : Int) by omega, w64 (n := (N : Int) + 1) (by omega) (by omega)]
  have hr := impl_ReadFixed_ev (keyB m t s) hb (by omega) ((N : Int) + 1) 8 (by omega) (by omega)
  rw [hrf] at hr
  refine Ev.bind hr ?_
  simp only [if_true]
  rw [decide_eq_false (show ¬ (N : Int) < 0 by omega)]
  refine Ev_succ ?_
  simp only [impl_ReadKey.j0, Bool.false_eq_true, if_false]
  simp only [if_pos (show 0 ≤ (N : Int) by omega), if_pos (show (N : Int) ≤ ((keyB m t s).length : Int) by omega), Int.toNat_natCast]
  rw [d1, strOfNums_T]
  have e : U (impl_keyBytes.pre m t t.length) = m.data.toList ++ 0 :: tgU t := by
    unfold impl_keyBytes.pre
    rw [List.take_length, U_app, U_app, U_bytes, U_tg]
    simp [U]
  rw [e]
  have hml : m.data.toList.length = m.size := data_len _
  have htl := tgU_len (t := t) h4
  refine Ev.bind (Ev_some (cut_hit m.data.toList (tgU t) 0 (name_no n1 0 (by decide)) (by omega))) ?_
  rw [T_self]
  exact Ev_cast (impl_tags (keyB m t s) hb m t s h1 h2 n2 t [] rfl) hfin
/-! ### the reference's ReadKey -/
theorem find_any (l : List Int) (c : Int) (hl : l.length ≤ 1048576) : ∀ (d i : Nat), l.length - i = d → i ≤ l.length → ∃ j : Nat, Ev (fun k => spec_l1Find.f k l (i : Int) c) (j : Int) ∧ i ≤ j ∧ j ≤ l.length ∧ (∀ p : Nat, i ≤ p → p < j → rd l (p : Int) ≠ c) ∧ (j < l.length → rd l (j : Int) = c) := by
  intro d
  induction d with
  | zero =>
    intro i hd hi
    refine ⟨i, Ev_succ ?_, Nat.le_refl _, hi, fun p h1 h2 => by omega, fun h => by omega⟩
    simp only [spec_l1Find.f, spec_l1Find.l0]
    simp only [if_neg (show ¬ (i : Int) < (l.length : Int) by omega)]
    exact Ev.now _
  | succ d ih =>
    intro i hd hi
    by_cases hc : rd l (i : Int) = c
    · refine ⟨i, Ev_succ ?_, Nat.le_refl _, hi, fun p h1 h2 => by omega, fun _ => hc⟩
      simp only [spec_l1Find.f, spec_l1Find.l0]
      simp only [if_pos (show (i : Int) < (l.length : Int) by omega), if_pos (show 0 ≤ (i : Int) by omega), if_pos hc]
      exact Ev.now _
    · obtain ⟨j, hj, h1, h2, h3, h4⟩ := ih (i + 1) (by omega) (by omega)
      refine ⟨j, Ev_succ ?_, by omega, h2, fun p hp1 hp2 => ?_, h4⟩
      · simp only [spec_l1Find.f, spec_l1Find.l0] at hj ⊢
        simp only [if_pos (show (i : Int) < (l.length : Int) by omega), if_pos (show 0 ≤ (i : Int) by omega), if_neg hc]
        rw [w64 (n := (i : Int) + 1) (by omega) (by omega)]
        exact hj
      · by_cases e : p = i
        · subst e; exact hc
        · exact h3 p (by omega) hp2
theorem find_hit (l a b : List Int) (c : Int) (i : Nat) (hl : l.length ≤ 1048576) (hi : i ≤ l.length) (he : l.drop i = a ++ c :: b) (hn : c ∉ a) : Ev (fun k => spec_l1Find.f k l (i : Int) c) ((i + a.length : Nat) : Int) := by
  obtain ⟨j, hj, h1, h2, h3, h4⟩ := find_any l c hl _ i rfl hi
  have hlen := congrArg List.length he
  simp only [List.length_drop, List.length_append, List.length_cons] at hlen
  have get : ∀ p, i + p < l.length → rd l ((i + p : Nat) : Int) = (a ++ c :: b)[p]?.getD 0 := by
    intro p hp
    rw [← he, List.getElem?_drop, rd_lt hp, List.getElem?_eq_getElem hp]
    rfl
  have e : j = i + a.length := by
    rcases Nat.lt_trichotomy j (i + a.length) with h | h | h
    · exfalso
      have g := get (j - i) (by omega)
      rw [show i + (j - i) = j by omega, h4 (by omega), List.getElem?_append_left (by omega), List.getElem?_eq_getElem (by omega)] at g
      exact hn (g ▸ List.getElem_mem _)
    · exact h
    · exfalso
      refine h3 (i + a.length) (by omega) h ?_
      rw [get a.length (by omega)]
      simp
  rw [← e]
  exact hj
theorem spec_fin (l : List Int) (hl : Bytes l) (hll : l.length ≤ 1048576) (m : ByteArray) (t : List S87) (N : Nat) (hN : l.length = N + 9) (hm : m.size ≤ 1048576) (ht : t.length ≤ 5) (hs : okSizes t) : Ev (fun k => spec_ReadKey.j2 k l (N : Int) false m t 0) (finK l m t (wrap64 (beVal (l.drop (N + 1)) : Int))) := by
  refine Ev_succ ?_
  simp only [spec_ReadKey.j2, Bool.false_eq_true, if_false]
  rw [w64 (n := (N : Int) + 1) (by omega) (by omega)]
  simp only [if_pos (show 0 ≤ (N : Int) + 1 by omega), if_pos (show (N : Int) + 1 ≤ (l.length : Int) by omega)]
  rw [show ((N : Int) + 1).toNat = N + 1 by omega]
  refine Ev.bind (spec_l1Number_ev (l.drop (N + 1)) (hl.drop _) (by rw [List.length_drop]; omega)) ?_
  generalize wrap64 ((beVal (l.drop (N + 1)) : Nat) : Int) = s
  refine Ev.bind (spec_GoodKey_ev m t s hm (by omega) hs) ?_
  unfold finK
  by_cases hg : goodKey m t s = true
  · simp only [if_pos hg]
    obtain ⟨r, hr, hr2⟩ := spec_l1Key_ev hg
    refine Ev.bind hr ?_
    have hr3 : r = strOfNums (keyB m t s) := kb_inj (by rw [hr2, kb_nums (keyB_bytes _ _ _)])
    have he2 : (r.toList = (strOfNums l).toList) ↔ keyB m t s = l := by
      rw [hr3]
      have := strOfNums_eq (keyB m t s) l (keyB_bytes _ _ _) hl
      constructor
      · intro h; rw [h] at this; simpa using this.symm
      · intro h; rw [h]
    by_cases he : keyB m t s = l
    · rw [if_pos (show goodKey m t s = true ∧ keyB m t s = l from ⟨hg, he⟩)]
      simp only [if_pos (he2.2 he)]
      exact Ev.now _
    · rw [if_neg (show ¬ (goodKey m t s = true ∧ keyB m t s = l) from fun h => he h.2)]
      simp only [if_neg (fun h => he (he2.1 h))]
      exact Ev.now _
  · simp only [if_neg hg]
    rw [if_neg (show ¬ (goodKey m t s = true ∧ keyB m t s = l) from fun h => hg h.1)]
    exact Ev.now _
theorem spec_bad (l : List Int) (a : Int) (m : ByteArray) (t : List S87) (s : Int) : Ev (fun k => spec_ReadKey.j2 k l a true m t s) badK := by
  refine Ev_succ ?_
  simp only [spec_ReadKey.j2, if_true]
  exact Ev.now _
/-- behind the tags -/
theorem spec_end (l : List Int) (hl : Bytes l) (hll : l.length ≤ 1048576) (m : ByteArray) (t : List S87) (N : Nat) (hN : N ≤ l.length + 1) (hm : m.size ≤ 1048576) (ht : t.length ≤ 5) (hs : okSizes t) : ∃ r, Ev (fun k => spec_ReadKey.j1 k l (N : Int) false m t 0) r ∧ SoundK l r ∧ (l.length = N + 9 → rd l (N : Int) = 1 → r = finK l m t (wrap64 (beVal (l.drop (N + 1)) : Int))) := by
  by_cases h9 : l.length = N + 9
  · by_cases h1 : rd l (N : Int) = 1
    · refine ⟨_, Ev_succ ?_, finK_sound _ _ _ _, fun _ _ => rfl⟩
      simp only [spec_ReadKey.j1, Bool.false_eq_true, if_false]
      rw [w64 (n := (l.length : Int) - (N : Int)) (by omega) (by omega)]
      simp only [if_pos (show (l.length : Int) - (N : Int) = 9 by omega), if_pos (show 0 ≤ (N : Int) by omega), if_pos (show (N : Int) < (l.length : Int) by omega)]
      rw [show (rd l (N : Int) != 1) = false by rw [h1]; rfl]
      exact spec_fin l hl hll m t N h9 hm ht hs
    · refine ⟨badK, Ev_succ ?_, .inl rfl, fun _ h => absurd h h1⟩
      simp only [spec_ReadKey.j1, Bool.false_eq_true, if_false]
      rw [w64 (n := (l.length : Int) - (N : Int)) (by omega) (by omega)]
      simp only [if_pos (show (l.length : Int) - (N : Int) = 9 by omega), if_pos (show 0 ≤ (N : Int) by omega), if_pos (show (N : Int) < (l.length : Int) by omega)]
      rw [show (rd l (N : Int) != 1) = true by simpa using h1]
      exact spec_bad _ _ _ _ _
  · refine ⟨badK, Ev_succ ?_, .inl rfl, fun h => absurd h h9⟩
    simp only [spec_ReadKey.j1, Bool.false_eq_true, if_false]
    rw [w64 (n := (l.length : Int) - (N : Int)) (by omega) (by omega)]
    simp only [if_neg (show ¬ (l.length : Int) - (N : Int) = 9 by omega)]
    exact spec_bad _ _ _ _ _
/-- one tag -/
theorem spec_tag (l : List Int) (hll : l.length ≤ 1048576) (m : ByteArray) (t : List S87) (N a b : Nat) (hN : N < l.length) (h2 : rd l (N : Int) = 2) (ht : t.length ≤ 4) (ha : Ev (fun k => spec_l1Find.f k l (N : Int) 1) (a : Int)) (hb : Ev (fun k => spec_l1Find.f k l (a : Int) 0) (b : Int)) (haN : N < a) (hab : a < b) (hbl : b < l.length) {r : KeyR}
    (hr : if t.length + 1 > 4 then r = badK else Ev (fun k => spec_ReadKey.l0 k l ((b + 1 : Nat) : Int) m (t ++ [⟨strOfNums ((l.take a).drop (N + 1)), strOfNums ((l.take b).drop (a + 1))⟩]) 0) r) : Ev (fun k => spec_ReadKey.l0 k l (N : Int) m t 0) r := by
  refine Ev_succ ?_
  simp only [spec_ReadKey.l0]
  simp only [if_pos (show (N : Int) < (l.length : Int) by omega), if_pos (show 0 ≤ (N : Int) by omega)]
  rw [show (rd l (N : Int) == 2) = true by rw [h2]; rfl]
  refine Ev_succ ?_
  simp only [spec_ReadKey.j1, if_true]
  refine Ev.bind ha ?_
  refine Ev.bind hb ?_
  rw [w64 (n := (N : Int) + 1) (by omega) (by omega), w64 (n := (a : Int) + 1) (by omega) (by omega), w64 (n := (b : Int) + 1) (by omega) (by omega)]
  simp only [if_neg (show ¬ (b : Int) = (l.length : Int) by omega), if_pos (show 0 ≤ (N : Int) + 1 by omega), if_pos (show (N : Int) + 1 ≤ (a : Int) by omega), if_pos (show (a : Int) ≤ (l.length : Int) by omega), if_pos (show 0 ≤ (a : Int) + 1 by omega), if_pos (show (a : Int) + 1 ≤ (b : Int) by omega), if_pos (show (b : Int) ≤ (l.length : Int) by omega), if_pos (show t.length < 4398046511104 by omega), Option.bind_some, Int.toNat_natCast]
  rw [show ((N : Int) + 1).toNat = N + 1 by omega, show ((a : Int) + 1).toNat = a + 1 by omega]
  by_cases h5 : t.length + 1 > 4
  · rw [if_pos h5] at hr
    simp only [if_pos (show ((t ++ [(⟨strOfNums ((l.take a).drop (N + 1)), strOfNums ((l.take b).drop (a + 1))⟩ : S87)]).length : Int) > 4 by rw [List.length_append, List.length_singleton]; omega)]
    exact Ev_cast (Ev.now _) hr.symm
  · rw [if_neg h5] at hr
    simp only [if_neg (show ¬ ((t ++ [(⟨strOfNums ((l.take a).drop (N + 1)), strOfNums ((l.take b).drop (a + 1))⟩ : S87)]).length : Int) > 4 by rw [List.length_append, List.length_singleton]; omega)]
    exact hr
theorem cutb_small (l : List Int) (hll : l.length ≤ 1048576) (a b : Nat) : (strOfNums ((l.take a).drop b)).size ≤ 1048576 := by rw [strOfNums_small, List.length_drop, List.length_take]; omega
theorem spec_loop (l : List Int) (hl : Bytes l) (hll : l.length ≤ 1048576) (m : ByteArray) (hm : m.size ≤ 1048576) : ∀ (n N : Nat) (t : List S87), 5 - t.length = n → t.length ≤ 4 → N ≤ l.length + 1 → okSizes t → ∃ r, Ev (fun k => spec_ReadKey.l0 k l (N : Int) m t 0) r ∧ SoundK l r := by
  intro n
  induction n with
  | zero => intro N t hn ht; omega
  | succ n ih =>
    intro N t hn ht hN hs
    obtain ⟨re, hre, hre2, _⟩ := spec_end l hl hll m t N hN hm (by omega) hs
    by_cases hlt : N < l.length
    · by_cases h2 : rd l (N : Int) = 2
      · obtain ⟨a, ha, a1, a2, a3, a4⟩ := find_any l 1 hll _ N rfl (by omega)
        have haN : N < a := by
          by_cases e : a = N
          · subst e
            have := a4 hlt
            rw [h2] at this
            exact absurd this (by omega)
          · omega
        obtain ⟨b, hb, b1, b2, b3, b4⟩ := find_any l 0 hll _ a rfl (by omega)
        by_cases hbl : b < l.length
        · have hab : a < b := by
            by_cases e : b = a
            · subst e
              have h5 := a4 hbl
              have h6 := b4 hbl
              rw [h5] at h6
              exact absurd h6 (by omega)
            · omega
          by_cases h5 : t.length + 1 > 4
          · exact ⟨badK, spec_tag l hll m t N a b hlt h2 ht ha hb haN hab hbl (by rw [if_pos h5]), .inl rfl⟩
          · obtain ⟨r, hr, hr2⟩ := ih (b + 1) (t ++ [⟨strOfNums ((l.take a).drop (N + 1)), strOfNums ((l.take b).drop (a + 1))⟩]) (by simp; omega) (by simp; omega) (by omega) (fun y hy => by
              rcases List.mem_append.1 hy with h | h
              · exact hs y h
              · rw [List.mem_singleton.1 h]; exact ⟨cutb_small l hll _ _, cutb_small l hll _ _⟩)
            exact ⟨r, spec_tag l hll m t N a b hlt h2 ht ha hb haN hab hbl (by rw [if_neg h5]; exact hr), hr2⟩
        · have hbe : b = l.length := by omega
          refine ⟨badK, Ev_succ ?_, .inl rfl⟩
          simp only [spec_ReadKey.l0]
          simp only [if_pos (show (N : Int) < (l.length : Int) by omega), if_pos (show 0 ≤ (N : Int) by omega)]
          rw [show (rd l (N : Int) == 2) = true by rw [h2]; rfl]
          refine Ev_succ ?_
          simp only [spec_ReadKey.j1, if_true]
          refine Ev.bind ha ?_
          refine Ev.bind hb ?_
          simp only [if_pos (show (b : Int) = (l.length : Int) by omega)]
          exact Ev.now _
      · refine ⟨re, Ev_succ ?_, hre2⟩
        simp only [spec_ReadKey.l0]
        simp only [if_pos (show (N : Int) < (l.length : Int) by omega), if_pos (show 0 ≤ (N : Int) by omega)]
        rw [show (rd l (N : Int) == 2) = false by simpa using h2]
        exact hre
    · refine ⟨re, Ev_succ ?_, hre2⟩
      simp only [spec_ReadKey.l0]
      simp only [if_neg (show ¬ (N : Int) < (l.length : Int) by omega)]
      exact hre
theorem spec_ReadKey_any (l : List Int) (hb : Bytes l) (hl : l.length ≤ 1048576) : ∃ r, Ev (fun k => spec_ReadKey.f k l) r ∧ SoundK l r := by
  obtain ⟨j, hj, _, j2, _, _⟩ := find_any l 0 hl _ 0 rfl (by omega)
  obtain ⟨r, hr, hr2⟩ := spec_loop l hb hl (strOfNums (l.take j)) (by rw [strOfNums_small, List.length_take]; omega) 5 (j + 1) [] rfl (by simp) (by omega) (fun y hy => by cases hy)
  refine ⟨r, ?_, hr2⟩
  unfold spec_ReadKey.f
  refine Ev.bind hj ?_
  simp only [if_pos (show 0 ≤ (j : Int) by omega), if_pos (show (j : Int) ≤ (l.length : Int) by omega), Int.toNat_natCast]
  rw [w64 (n := (j : Int) + 1) (by omega) (by omega)]
  exact hr
theorem name_noI {s : ByteArray} (h : isName s = true) (c : Int) (h0 : 0 ≤ c) (hc : c < 65) : c ∉ bytesOf s := by
  intro hm
  unfold bytesOf at hm
  obtain ⟨b, hb, e⟩ := List.mem_map.1 hm
  refine name_no h b ?_ hb
  omega
theorem tg_append (a b : List S87) : impl_keyBytes.tg (a ++ b) = impl_keyBytes.tg a ++ impl_keyBytes.tg b := by unfold impl_keyBytes.tg; rw [List.flatMap_append]
theorem spec_tags {m : ByteArray} {t : List S87} {s : Int} (h : goodKey m t s = true) : ∀ (q p : List S87), t = p ++ q → Ev (fun k => spec_ReadKey.l0 k (keyB m t s) (((bytesOf m ++ [0] ++ impl_keyBytes.tg p).length : Nat) : Int) m p 0) (m, t, s, true) := by
  obtain ⟨s1, s2, s3, s4⟩ := goodKey_small h
  obtain ⟨n1, n2⟩ := goodKey_names h
  have hkl := keyB_len h
  have hb := keyB_bytes m t s
  obtain ⟨_, d2, d3⟩ := keyB_drop (m := m) (t := t) (s := s) _ rfl
  intro q
  induction q with
  | nil =>
    intro p hp
    rw [List.append_nil] at hp
    subst hp
    have hpre : bytesOf m ++ [0] ++ impl_keyBytes.tg t = impl_keyBytes.pre m t t.length := by unfold impl_keyBytes.pre; rw [List.take_length]
    rw [hpre]
    have hone : rd (keyB m t s) (((impl_keyBytes.pre m t t.length).length : Nat) : Int) = 1 := by
      rw [rd_lt (by omega)]
      simp [keyB]
    obtain ⟨r, hr, _, hr3⟩ := spec_end (keyB m t s) hb (by omega) m t (impl_keyBytes.pre m t t.length).length (by omega) (by omega) (by omega) (fun x hx => by have := s4 x hx; omega)
    have hr4 := hr3 d3 hone
    rw [d2, beVal_fixedB 8 s.toNat (by omega), w64 (n := ((s.toNat : Nat) : Int)) (by omega) (by omega), show ((s.toNat : Nat) : Int) = s by omega, finK_good h] at hr4
    subst hr4
    refine Ev_succ ?_
    simp only [spec_ReadKey.l0]
    simp only [if_pos (show (((impl_keyBytes.pre m t t.length).length : Nat) : Int) < ((keyB m t s).length : Int) by omega), if_pos (show 0 ≤ (((impl_keyBytes.pre m t t.length).length : Nat) : Int) by omega)]
    rw [show (rd (keyB m t s) (((impl_keyBytes.pre m t t.length).length : Nat) : Int) == 2) = false by rw [hone]; rfl]
    exact hr
  | cons y q ih =>
    intro p hp
    have hy : y ∈ t := by rw [hp]; simp
    have hsm := s4 y hy
    have hnm := n2 y hy
    have nxt := ih (p ++ [y]) (by rw [hp]; simp)
    have hlen := congrArg List.length hp
    simp only [List.length_append, List.length_cons] at hlen
    obtain ⟨X, hX⟩ : ∃ X, X = bytesOf m ++ [0] ++ impl_keyBytes.tg p := ⟨_, rfl⟩
    obtain ⟨Y, hY⟩ : ∃ Y, Y = impl_keyBytes.tg q ++ ([1] ++ fixedB s.toNat 8) := ⟨_, rfl⟩
    have hk : keyB m t s = X ++ (2 :: (bytesOf y.f0 ++ (1 :: (bytesOf y.f1 ++ (0 :: Y))))) := by
      rw [hX, hY]
      unfold keyB impl_keyBytes.pre
      rw [List.take_length, hp, tg_append, show impl_keyBytes.tg (y :: q) = ([2] ++ bytesOf y.f0 ++ [1] ++ bytesOf y.f1 ++ [0]) ++ impl_keyBytes.tg q from by unfold impl_keyBytes.tg; rw [List.flatMap_cons]]
      simp [List.append_assoc]
    have hnx : (bytesOf m ++ [0] ++ impl_keyBytes.tg (p ++ [y])).length = X.length + 1 + y.f0.size + 1 + y.f1.size + 1 := by
      rw [hX, tg_append, show impl_keyBytes.tg [y] = [2] ++ bytesOf y.f0 ++ [1] ++ bytesOf y.f1 ++ [0] from by simp [impl_keyBytes.tg]]
      simp only [List.length_append, List.length_cons, List.length_nil, bytesOf_length]
      omega
    rw [hnx] at nxt
    rw [← hX]
    generalize keyB m t s = L at hk nxt hkl hb
    have hL := congrArg List.length hk
    simp only [List.length_append, List.length_cons, bytesOf_length] at hL
    have hX2 : L.drop X.length = 2 :: (bytesOf y.f0 ++ (1 :: (bytesOf y.f1 ++ (0 :: Y)))) := by rw [hk]; simp
    have h2 : rd L (X.length : Int) = 2 := by
      rw [rd_lt (by omega)]
      simp [hk]
    have ha : Ev (fun k => spec_l1Find.f k L (X.length : Int) 1) ((X.length + (1 + y.f0.size) : Nat) : Int) := by
      have := find_hit L (2 :: bytesOf y.f0) (bytesOf y.f1 ++ (0 :: Y)) 1 X.length (by omega) (by omega) (by rw [hX2]; simp) (by
        simp only [List.mem_cons, not_or]
        exact ⟨by omega, name_noI hnm.1 1 (by omega) (by omega)⟩)
      rw [List.length_cons, bytesOf_length, show y.f0.size + 1 = 1 + y.f0.size by omega] at this
      exact this
    have hd2 : L.drop (X.length + (1 + y.f0.size)) = 1 :: (bytesOf y.f1 ++ (0 :: Y)) := by
      rw [← List.drop_drop, hX2, show 1 + y.f0.size = (2 :: bytesOf y.f0).length by rw [List.length_cons, bytesOf_length]; omega, show (2 :: (bytesOf y.f0 ++ (1 :: (bytesOf y.f1 ++ (0 :: Y))))) = (2 :: bytesOf y.f0) ++ (1 :: (bytesOf y.f1 ++ (0 :: Y))) from rfl, List.drop_left]
    have hbb : Ev (fun k => spec_l1Find.f k L ((X.length + (1 + y.f0.size) : Nat) : Int) 0) ((X.length + (1 + y.f0.size) + (1 + y.f1.size) : Nat) : Int) := by
      have := find_hit L (1 :: bytesOf y.f1) Y 0 (X.length + (1 + y.f0.size)) (by omega) (by omega) (by rw [hd2]; simp) (by
        simp only [List.mem_cons, not_or]
        exact ⟨by omega, name_noI hnm.2 0 (by omega) (by omega)⟩)
      rw [List.length_cons, bytesOf_length, show y.f1.size + 1 = 1 + y.f1.size by omega] at this
      exact this
    have c1 : strOfNums ((L.take (X.length + (1 + y.f0.size))).drop (X.length + 1)) = y.f0 := by
      have e : (L.take (X.length + (1 + y.f0.size))).drop (X.length + 1) = bytesOf y.f0 := by
        rw [← List.drop_drop, List.drop_take, hX2, show X.length + (1 + y.f0.size) - X.length = y.f0.size + 1 by omega, List.take_succ_cons, List.drop_succ_cons, List.drop_zero, ← bytesOf_length, List.take_left]
      rw [e]
      exact kb_inj (kb_nums (bytesOf_isBytes _))
    have c2 : strOfNums ((L.take (X.length + (1 + y.f0.size) + (1 + y.f1.size))).drop (X.length + (1 + y.f0.size) + 1)) = y.f1 := by
      have e : (L.take (X.length + (1 + y.f0.size) + (1 + y.f1.size))).drop (X.length + (1 + y.f0.size) + 1) = bytesOf y.f1 := by
        rw [← List.drop_drop, List.drop_take, hd2, show X.length + (1 + y.f0.size) + (1 + y.f1.size) - (X.length + (1 + y.f0.size)) = y.f1.size + 1 by omega, List.take_succ_cons, List.drop_succ_cons, List.drop_zero, ← bytesOf_length, List.take_left]
      rw [e]
      exact kb_inj (kb_nums (bytesOf_isBytes _))
    refine spec_tag L (by omega) m p X.length _ _ (by omega) h2 (by omega) ha hbb (by omega) (by omega) (by omega) ?_
    rw [if_neg (by omega), c1, c2, show X.length + (1 + y.f0.size) + (1 + y.f1.size) + 1 = X.length + 1 + y.f0.size + 1 + y.f1.size + 1 by omega]
    exact nxt
theorem spec_ReadKey_good {m : ByteArray} {t : List S87} {s : Int} (h : goodKey m t s = true) : Ev (fun k => spec_ReadKey.f k (keyB m t s)) (m, t, s, true) := by
  obtain ⟨n1, n2⟩ := goodKey_names h
  have hkl := keyB_len h
  have nxt := spec_tags h t [] rfl
  have hk : keyB m t s = bytesOf m ++ 0 :: (impl_keyBytes.tg t ++ ([1] ++ fixedB s.toNat 8)) := by
    unfold keyB impl_keyBytes.pre
    rw [List.take_length]
    simp [List.append_assoc]
  have hnx : (bytesOf m ++ [0] ++ impl_keyBytes.tg []).length = m.size + 1 := by simp [impl_keyBytes.tg, bytesOf_length]
  rw [hnx] at nxt
  have hf := find_hit (keyB m t s) (bytesOf m) _ 0 0 (by omega) (by omega) (by rw [List.drop_zero]; exact hk) (name_noI n1 0 (by omega) (by omega))
  rw [Nat.zero_add, bytesOf_length] at hf
  have c1 : strOfNums ((keyB m t s).take m.size) = m := by
    rw [hk, ← bytesOf_length, List.take_left]
    exact kb_inj (kb_nums (bytesOf_isBytes _))
  have hL := congrArg List.length hk
  simp only [List.length_append, List.length_cons, bytesOf_length] at hL
  unfold spec_ReadKey.f
  refine Ev.bind hf ?_
  simp only [if_pos (show 0 ≤ (m.size : Int) by omega), if_pos (show (m.size : Int) ≤ ((keyB m t s).length : Int) by omega), Int.toNat_natCast]
  rw [w64 (n := (m.size : Int) + 1) (by omega) (by omega), c1]
  exact nxt
theorem toList_refl_if {α : Type} (s : ByteArray) (a b : Option α) : (if s.toList = s.toList then a else b) = a := if_pos rfl
/-- tags p on are marked -/
def markedT (L : List S87) (i : Nat) : Prop := ∀ (p : Nat) (h : p < L.length), p < i → Ev (fun k => laws_markText.f k ((1 + 2 * p : Nat) : Int)) (L[p]).f0 ∧ Ev (fun k => laws_markText.f k ((1 + 2 * p + 1 : Nat) : Int)) (L[p]).f1
theorem markTagS_both (l : List S87) (hl : l.length ≤ 1048576) : ∃ L : List S87, Ev (fun k => laws_markTagS.f k l 1) (((1 + 2 * l.length : Nat) : Int), L) ∧ L.length = l.length ∧ markedT L L.length := by
  have loop : ∀ (d i : Nat) (o : List S87), o.length - i = d → i ≤ o.length → o.length = l.length → markedT o i → ∃ L : List S87, Ev (fun k => laws_markTagS.l0 k o ((1 + 2 * i : Nat) : Int) (i : Int)) (((1 + 2 * l.length : Nat) : Int), L) ∧ L.length = l.length ∧ markedT L L.length := by
    intro d
    induction d with
    | zero =>
      intro i o hd hi ho hm
      have hie : i = o.length := by omega
      subst hie
      refine ⟨o, Ev_succ ?_, ho, hm⟩
      simp only [laws_markTagS.l0]
      simp only [if_neg (show ¬ ((o.length : Nat) : Int) < (o.length : Int) by omega)]
      exact Ev_cast (Ev.now _) (by rw [ho])
    | succ d ih =>
      intro i o hd hi ho hm
      obtain ⟨t1, ht1⟩ := markText_ev (1 + 2 * i) (by omega)
      obtain ⟨t2, ht2⟩ := markText_ev (1 + 2 * i + 1) (by omega)
      have e1 : wrap64 (((1 + 2 * i : Nat) : Int) + 1) = ((1 + 2 * i + 1 : Nat) : Int) := by rw [w64 (by omega) (by omega)]; omega
      have e2 : wrap64 (((1 + 2 * i + 1 : Nat) : Int) + 1) = ((1 + 2 * (i + 1) : Nat) : Int) := by rw [w64 (by omega) (by omega)]; omega
      have e3 : wrap64 ((i : Int) + 1) = ((i + 1 : Nat) : Int) := by rw [w64 (by omega) (by omega)]; omega
      have es : (o.set i ⟨t1, (rd_T87 o (i : Int)).f1⟩).set i ⟨(rd_T87 (o.set i ⟨t1, (rd_T87 o (i : Int)).f1⟩) (i : Int)).f0, t2⟩ = o.set i ⟨t1, t2⟩ := by
        rw [rd87_lt (l := o) (show i < o.length by omega), rd87_lt (l := o.set i _) (by rw [List.length_set]; omega), List.getElem_set_self, List.set_set]
      obtain ⟨L, hL, hL2, hL3⟩ := ih (i + 1) (o.set i ⟨t1, t2⟩) (by simp; omega) (by simp; omega) (by simp only [List.length_set]; exact ho) (by
        intro p hp hpi
        by_cases e : p = i
        · subst e
          rw [List.getElem_set_self]
          exact ⟨ht1, ht2⟩
        · rw [List.getElem_set_ne (fun h => e h.symm)]
          exact hm p (by simpa using hp) (by omega))
      refine ⟨L, Ev_succ ?_, hL2, hL3⟩
      simp only [laws_markTagS.l0]
      simp only [if_pos (show (i : Int) < (o.length : Int) by omega), if_pos (show 0 ≤ (i : Int) by omega), Option.bind_some, Int.toNat_natCast, e1, e2, e3]
      refine Ev.bind ht1 ?_
      refine Ev.bind ht2 ?_
      rw [es]
      exact hL
  unfold laws_markTagS.f
  exact loop l.length 0 l (by omega) (by omega) rfl (fun p _ h => by omega)
theorem heldTagS_ev (L : List S87) (hl : L.length ≤ 1048576) (hm : markedT L L.length) : Ev (fun k => laws_heldTagS.f k L 1) ((1 + 2 * L.length : Nat) : Int) := by
  have loop : ∀ (d i : Nat), L.length - i = d → i ≤ L.length → Ev (fun k => laws_heldTagS.l0 k L ((1 + 2 * i : Nat) : Int) (i : Int)) ((1 + 2 * L.length : Nat) : Int) := by
    intro d
    induction d with
    | zero =>
      intro i hd hi
      have hie : i = L.length := by omega
      subst hie
      refine Ev_succ ?_
      simp only [laws_heldTagS.l0]
      simp only [if_neg (show ¬ ((L.length : Nat) : Int) < (L.length : Int) by omega)]
      exact Ev.now _
    | succ d ih =>
      intro i hd hi
      obtain ⟨g1, g2⟩ := hm i (by omega) (by omega)
      have e1 : wrap64 (((1 + 2 * i : Nat) : Int) + 1) = ((1 + 2 * i + 1 : Nat) : Int) := by rw [w64 (by omega) (by omega)]; omega
      have e2 : wrap64 (((1 + 2 * i + 1 : Nat) : Int) + 1) = ((1 + 2 * (i + 1) : Nat) : Int) := by rw [w64 (by omega) (by omega)]; omega
      have e3 : wrap64 ((i : Int) + 1) = ((i + 1 : Nat) : Int) := by rw [w64 (by omega) (by omega)]; omega
      refine Ev_succ ?_
      simp only [laws_heldTagS.l0]
      simp only [if_pos (show (i : Int) < (L.length : Int) by omega), if_pos (show 0 ≤ (i : Int) by omega), e1, e2, e3]
      rw [rd87_lt (by omega)]
      refine Ev.bind g1 ?_
      simp only [if_true]
      refine Ev.bind g2 ?_
      simp only [if_true]
      exact ih (i + 1) (by omega) (by omega)
  unfold laws_heldTagS.f
  exact loop L.length 0 (by omega) (by omega)
theorem FnExactReadKey : laws_FnExactReadKey.Pure := by
  intro l h0
  have hb : Bytes l := Bytes.wf h0.2
  refine Ev.rounds ?_
  unfold laws_FnExactReadKey.f
  by_cases hl : 1048576 < (l.length : Int)
  · simp only [if_pos hl]; exact Ev.now _
  simp only [if_neg hl]
  have ht := toByteS_ev l (by omega)
  have key : ∃ r : KeyR, Ev (fun k => spec_ReadKey.f k l) r ∧ Ev (fun k => impl_ReadKey.f k l) r ∧ r.2.1.length ≤ 1048576 := by
    obtain ⟨r, hr, hr2⟩ := spec_ReadKey_any l hb (by omega)
    obtain ⟨q, hq, hq2⟩ := impl_ReadKey_any l hb (by omega)
    rcases hr2 with e1 | ⟨m, t, s, e1, g1, g2⟩
    · rcases hq2 with e2 | ⟨m, t, s, e2, g1, g2⟩
      · exact ⟨badK, e1 ▸ hr, e2 ▸ hq, by simp [badK]⟩
      · have k1 := spec_ReadKey_good g1
        rw [g2] at k1
        exact ⟨(m, t, s, true), k1, e2 ▸ hq, by have := goodKey_small g1; show t.length ≤ _; omega⟩
    · have k1 := impl_ReadKey_good g1
      rw [g2] at k1
      exact ⟨(m, t, s, true), e1 ▸ hr, k1, by have := goodKey_small g1; show t.length ≤ _; omega⟩
  obtain ⟨r, e1, e2, hrl⟩ := key
  obtain ⟨L, hm, hL, hmk⟩ := markTagS_both r.2.1 hrl
  have hh := heldTagS_ev L (by omega) hmk
  rw [hL] at hh
  have hmark : Ev (fun k => laws_markKey.f k r.1 r.2.1 r.2.2.1 1) (((1 + 2 * r.2.1.length : Nat) : Int), L) := by
    unfold laws_markKey.f
    exact Ev.bind hm (Ev.now _)
  have hheld : Ev (fun k => laws_heldKey.f k r.1 L r.2.2.1 1) ((1 + 2 * r.2.1.length : Nat) : Int) := by
    unfold laws_heldKey.f
    refine Ev.bind hh ?_
    simp only [if_neg (show ¬ ((1 + 2 * r.2.1.length : Nat) : Int) < 0 by omega)]
    exact Ev.now _
  have heq := eqKey_same r.1 r.2.1 r.2.2.1 hrl
  refine Ev.bind ht (Ev.bind e1 (Ev.bind ht (Ev.bind e2 (Ev.bind heq (Ev.bind ht (Ev.bind (eqByteS_same l l (by omega) rfl) ?_))))))
  refine Ev.bind (markByteS_ev l 1 (by omega) (by omega) (by omega)) ?_
  refine Ev.bind heq (Ev.bind hmark (Ev.bind hheld (Ev.bind ht (Ev.bind e2 (Ev.bind heq (Ev.bind hheld ?_))))))
  rw [if_pos ⟨rfl, rfl, rfl, by omega, rfl, rfl, by omega, rfl, rfl, rfl, by omega, rfl⟩]
  exact Ev.now _
end Go.Proofs.YtodblpadklheaaaDoor.Pure
