/- The law FnExactKeyBytes answers true, for all keys. -/
import Derived.Test.YtodblpadklheaaaDoorPFnExactKeyBytesx6
import Derived.Test.YtodblpadklheaaaDoorPFnExactKeyBytesx6
set_option linter.unusedVariables false
set_option linter.unusedSimpArgs false
namespace Go.Proofs.YtodblpadklheaaaDoor.Pure
open Go.RowKit Go.Proofs.YtodblpadklheaaaDoor.PFnExactKeyBytes Go.Proofs.YtodblpadklheaaaDoorW Go.Proofs.YtodblpadklheaaaDoorW.PrintWords Go.Proofs.YtodblpadklheaaaDoorW.PrintLast Go.Proofs.YtodblpadklheaaaDoorW.PrintMore
/-! ### base: rounds, numbers -/
theorem Ev_succ {α : Type} {g : Nat → Option α} {r : α} (h : Ev (fun k => g (k + 1)) r) : Ev g r := Ev.step (fun _ => rfl) h
theorem Ev_some {α : Type} {o : Option α} {r : α} (h : o = some r) : Ev (fun _ => o) r := ⟨0, fun _ _ => h⟩
theorem Ev_cast {α : Type} {g : Nat → Option α} {r q : α} (h : Ev g r) (e : r = q) : Ev g q := e ▸ h
theorem w64 {n : Int} (h : -9223372036854775808 ≤ n) (h' : n ≤ 9223372036854775807) : wrap64 n = n := by unfold wrap64; omega
theorem wf_i64 {n : Int} (h : (Lit.int .i64 n).wf = true) : -9223372036854775808 ≤ n ∧ n ≤ 9223372036854775807 := by
  simp only [Lit.wf, IntKind.min, IntKind.max, IntKind.signed, IntKind.bits, Bool.and_eq_true, decide_eq_true_eq, if_true] at h
  omega
theorem wf_u64 {n : Int} (h : (Lit.int .u64 n).wf = true) : 0 ≤ n ∧ n ≤ 18446744073709551615 := by
  simp only [Lit.wf, IntKind.min, IntKind.max, IntKind.signed, IntKind.bits, Bool.and_eq_true, decide_eq_true_eq, if_true] at h
  simp at h
  omega
theorem wf_u8 {n : Int} (h : (Lit.int .u8 n).wf = true) : 0 ≤ n ∧ n ≤ 255 := by
  simp only [Lit.wf, IntKind.min, IntKind.max, IntKind.signed, IntKind.bits, Bool.and_eq_true, decide_eq_true_eq, if_true] at h
  simp at h
  omega
theorem wrap_u64 (n : Int) : IntKind.u64.wrap n = n % 18446744073709551616 := by simp [IntKind.wrap, IntKind.bits, IntKind.signed]
theorem wrap_u32 (n : Int) : IntKind.u32.wrap n = n % 4294967296 := by simp [IntKind.wrap, IntKind.bits, IntKind.signed]
/-- A list of bytes. -/
def Bytes (l : List Int) : Prop := ∀ x ∈ l, 0 ≤ x ∧ x ≤ 255
theorem Bytes.wf {l : List Int} (h : ∀ x ∈ l, (Lit.int .u8 x).wf = true) : Bytes l := fun x hx => wf_u8 (h x hx)
theorem Bytes.nil : Bytes [] := fun x hx => by cases hx
theorem Bytes.app {a b : List Int} (h : Bytes a) (k : Bytes b) : Bytes (a ++ b) := fun x hx => by
  rcases List.mem_append.1 hx with h' | h'
  · exact h x h'
  · exact k x h'
theorem Bytes.one {x : Int} (h : 0 ≤ x) (h' : x ≤ 255) : Bytes [x] := fun y hy => (List.mem_singleton.1 hy) ▸ ⟨h, h'⟩
theorem Bytes.sub {a b : List Int} (h : Bytes a) (k : ∀ x ∈ b, x ∈ a) : Bytes b := fun x hx => h x (k x hx)
theorem Bytes.take {a : List Int} (h : Bytes a) (n : Nat) : Bytes (a.take n) := h.sub fun _ hx => List.mem_of_mem_take hx
theorem Bytes.drop {a : List Int} (h : Bytes a) (n : Nat) : Bytes (a.drop n) := h.sub fun _ hx => List.mem_of_mem_drop hx
theorem rd_lt {l : List Int} {i : Nat} (h : i < l.length) : rd l (i : Int) = l[i] := by simp [rd, h]
theorem Bytes.rd {l : List Int} (h : Bytes l) (i : Int) : 0 ≤ rd l i ∧ rd l i ≤ 255 := by
  unfold PrintWords.rd
  by_cases hi : i.toNat < l.length
  · rw [List.getD_eq_getElem?_getD, List.getElem?_eq_getElem hi]; exact h _ (List.getElem_mem hi)
  · rw [List.getD_eq_getElem?_getD, List.getElem?_eq_none (by omega)]; simp
theorem drop_cons {α : Type} {l : List α} {i : Nat} (h : i < l.length) : l.drop i = l[i] :: l.drop (i + 1) := List.drop_eq_getElem_cons h
/-! ### the laws' own words on bytes -/
theorem eqByteS_l0 (a b : List Int) (hl : a.length = b.length) (hb : a.length ≤ 4611686018427387904) :
    ∀ (d i : Nat), a.length - i = d → i ≤ a.length → Ev (fun k => laws_eqByteS.l0 k a b (i : Int)) (decide (a.drop i = b.drop i)) := by
  intro d
  induction d with
  | zero =>
    intro i hd hi
    refine Ev_succ ?_
    simp only [laws_eqByteS.l0]
    simp only [if_neg (show ¬ (i : Int) < (a.length : Int) by omega)]
    exact Ev_cast (Ev.now _) (by rw [List.drop_eq_nil_of_le (by omega), List.drop_eq_nil_of_le (by omega)]; simp)
  | succ d ih =>
    intro i hd hi
    refine Ev_succ ?_
    simp only [laws_eqByteS.l0]
    simp only [if_pos (show (i : Int) < (a.length : Int) by omega), if_pos (show 0 ≤ (i : Int) by omega), if_pos (show (i : Int) < (b.length : Int) by omega)]
    rw [rd_lt (by omega), rd_lt (by omega), w64 (by omega) (by omega), drop_cons (l := a) (by omega), drop_cons (l := b) (i := i) (by omega)]
    by_cases e : a[i]'(by omega) = b[i]'(by omega)
    · simp only [if_pos e]
      exact Ev_cast (ih (i + 1) (by omega) (by omega)) (decide_eq_decide.2 (by rw [List.cons.injEq]; exact ⟨fun h => ⟨e, h⟩, fun h => h.2⟩))
    · simp only [if_neg e]
      exact Ev_cast (Ev.now _) (Eq.symm (decide_eq_false (by rw [List.cons.injEq]; exact fun h => e h.1)))
theorem eqByteS_ev (a b : List Int) (ha : a.length ≤ 4611686018427387904) : Ev (fun k => laws_eqByteS.f k a b) (decide (a = b)) := by
  unfold laws_eqByteS.f
  by_cases h : a.length = b.length
  · simp only [if_pos (show (a.length : Int) = (b.length : Int) by omega)]
    exact eqByteS_l0 a b h ha a.length 0 (by omega) (by omega)
  · simp only [if_neg (show ¬ (a.length : Int) = (b.length : Int) by omega)]
    exact Ev_cast (Ev.now _) (by simp; intro e; exact h (by rw [e]))
theorem eqByteS_same (a b : List Int) (ha : a.length ≤ 4611686018427387904) (e : a = b) : Ev (fun k => laws_eqByteS.f k a b) true := Ev_cast (eqByteS_ev a b ha) (by simp [e])
/-- What a list reads once it was marked from m on. -/
def markedFrom (m : Int) : Nat → List Int
  | 0 => []
  | n + 1 => (m % 256) :: markedFrom (m + 1) n
theorem markedFrom_length (n : Nat) : ∀ m, (markedFrom m n).length = n := by
  induction n with
  | zero => intro m; rfl
  | succ n ih => intro m; simp [markedFrom, ih]
theorem markByteS_l0 (m : Int) : ∀ (d i : Nat) (l : List Int), l.length - i = d → i ≤ l.length → l.length ≤ 1152921504606846976 → 0 ≤ m → m ≤ 1152921504606846976 + i →
    Ev (fun k => laws_markByteS.l0 k l m (i : Int)) (m + d, l.take i ++ markedFrom m d) := by
  intro d
  induction d generalizing m with
  | zero =>
    intro i l hd hi hl h0 hm
    refine Ev_succ ?_
    simp only [laws_markByteS.l0]
    simp only [if_neg (show ¬ (i : Int) < (l.length : Int) by omega)]
    exact Ev_cast (Ev.now _) (by rw [List.take_of_length_le (by omega)]; simp [markedFrom])
  | succ d ih =>
    intro i l hd hi hl h0 hm
    refine Ev_succ ?_
    simp only [laws_markByteS.l0]
    simp only [if_pos (show (i : Int) < (l.length : Int) by omega), if_pos (show 0 ≤ (i : Int) by omega)]
    rw [w64 (n := m + 1) (by omega) (by omega), w64 (by omega) (by omega)]
    refine Ev_cast (ih (m + 1) (i + 1) (l.set i (m % 256)) (by simp; omega) (by simp; omega) (by simpa using hl) (by omega) (by omega)) ?_
    refine Prod.ext (by simp; omega) ?_
    show (l.set i (m % 256)).take (i + 1) ++ markedFrom (m + 1) d = l.take i ++ markedFrom m (d + 1)
    have : (l.set i (m % 256)).take (i + 1) = l.take i ++ [m % 256] := by
      apply List.ext_getElem?
      intro j
      rw [List.getElem?_take, List.getElem?_append, List.getElem?_set]
      have : (l.take i).length = i := by simp; omega
      rw [this]
      by_cases h1 : j < i
      · rw [if_pos (by omega), if_neg (by omega), if_pos h1, List.getElem?_take, if_pos h1]
      · by_cases h2 : j = i
        · subst h2; simp; omega
        · rw [if_neg (by omega), if_neg h1]; simp; omega
    rw [this]; simp [markedFrom]
theorem markByteS_ev (l : List Int) (m : Int) (hl : l.length ≤ 1152921504606846976) (h0 : 0 ≤ m) (hm : m ≤ 1152921504606846976) : Ev (fun k => laws_markByteS.f k l m) (m + l.length, markedFrom m l.length) := by
  unfold laws_markByteS.f
  exact Ev_cast (markByteS_l0 m l.length 0 l (by omega) (by omega) hl h0 (by omega)) (by simp)
theorem heldByteS_l0 : ∀ (n : Nat) (m : Int) (i : Nat) (p : List Int), p.length = i → i + n ≤ 1152921504606846976 → 0 ≤ m → m ≤ 1152921504606846976 + i →
    Ev (fun k => laws_heldByteS.l0 k (p ++ markedFrom m n) m (i : Int)) (m + n) := by
  intro n
  induction n with
  | zero =>
    intro m i p hp hl h0 hm
    refine Ev_succ ?_
    simp only [laws_heldByteS.l0]
    simp only [markedFrom, List.append_nil, if_neg (show ¬ (i : Int) < (p.length : Int) by omega)]
    exact Ev_cast (Ev.now _) (by simp)
  | succ n ih =>
    intro m i p hp hl h0 hm
    refine Ev_succ ?_
    simp only [laws_heldByteS.l0]
    have hlen : (p ++ markedFrom m (n + 1)).length = i + n + 1 := by rw [List.length_append, markedFrom_length]; omega
    have hr : rd (p ++ markedFrom m (n + 1)) (i : Int) = m % 256 := by
      rw [rd_lt (by omega)]; simp [markedFrom, hp]
    simp only [if_pos (show (i : Int) < ((p ++ markedFrom m (n + 1)).length : Int) by omega), if_pos (show 0 ≤ (i : Int) by omega), hr, if_true]
    rw [w64 (n := m + 1) (by omega) (by omega), w64 (by omega) (by omega)]
    have e : p ++ markedFrom m (n + 1) = (p ++ [m % 256]) ++ markedFrom (m + 1) n := by simp [markedFrom]
    rw [e]
    exact Ev_cast (ih (m + 1) (i + 1) (p ++ [m % 256]) (by simp [hp]) (by omega) (by omega) (by omega)) (by omega)
theorem heldByteS_ev (m : Int) (n : Nat) (hl : n ≤ 1152921504606846976) (h0 : 0 ≤ m) (hm : m ≤ 1152921504606846976) : Ev (fun k => laws_heldByteS.f k (markedFrom m n) m) (m + n) := by
  unfold laws_heldByteS.f
  exact heldByteS_l0 n m 0 [] rfl (by omega) h0 (by omega)
/-! ### marks in texts -/
theorem markText_l0 : ∀ (n : Nat) (s : ByteArray), s.size + n ≤ 4611686018427387904 → ∃ r, Ev (fun k => laws_markText.l0 k (n : Int) s) r := by
  intro n
  induction n using Nat.strongRecOn with
  | ind n ih =>
    intro s h
    by_cases h0 : 0 < n
    · have hsz : ∀ x : Int, (strOfNums [x]).size = 1 := fun x => by simp [strOfNums]; rfl
      obtain ⟨r, hr⟩ := ih (n / 10) (by omega) (strOfNums [(wrap64 (48 + Int.tmod (n : Int) 10)) % 256] ++ s) (by rw [ByteArray.size_append, hsz]; omega)
      refine ⟨r, Ev_succ ?_⟩
      simp only [laws_markText.l0]
      simp only [if_pos (show (n : Int) > 0 by omega), Option.bind_some]
      simp only [hsz, if_pos (show 1 + s.size ≤ 9223372036854775807 by omega)]
      rw [show wrap64 (Int.tdiv (n : Int) 10) = ((n / 10 : Nat) : Int) by rw [Int.tdiv_eq_ediv_of_nonneg (by omega), w64 (by omega) (by omega)]; omega]
      exact hr
    · refine ⟨(⟨#[109]⟩ : ByteArray) ++ s, Ev_succ ?_⟩
      simp only [laws_markText.l0]
      simp only [if_neg (show ¬ (n : Int) > 0 by omega), if_pos (show 1 + s.size ≤ 9223372036854775807 by omega)]
      exact Ev.now _
theorem markText_ev (n : Nat) (h : n ≤ 1152921504606846976) : ∃ r, Ev (fun k => laws_markText.f k (n : Int)) r := by
  unfold laws_markText.f
  by_cases h0 : (n : Int) ≤ 0
  · simp only [if_pos h0]
    exact ⟨_, Ev.now _⟩
  · simp only [if_neg h0]
    exact markText_l0 n _ (by show 0 + n ≤ _; omega)
theorem within_eq (a b c : Int) : impl_within.f a b c = some (decide (b ≤ a ∧ a ≤ c)) := by
  unfold impl_within.f
  by_cases h : a ≥ b
  · rw [if_pos h]; simp; intro; omega
  · rw [if_neg h]; simp; intro; omega
theorem l1In_eq (a b c : Int) : spec_l1In.f a b c = some (decide (b ≤ a ∧ a ≤ c)) := by
  unfold spec_l1In.f
  by_cases h : a ≥ b
  · rw [if_pos h]; simp; intro; omega
  · rw [if_neg h]; simp; intro; omega
/-! ### names -/
def letterB (b : UInt8) : Bool := decide ((97 ≤ b.toNat ∧ b.toNat ≤ 122) ∨ (65 ≤ b.toNat ∧ b.toNat ≤ 90))
def isName (s : ByteArray) : Bool := decide (1 ≤ s.size ∧ s.size ≤ 12) && s.data.toList.all letterB
theorem data_len (s : ByteArray) : s.data.toList.length = s.size := by rw [Array.length_toList]; rfl
theorem bt_lt {s : ByteArray} {i : Nat} (h : i < s.data.toList.length) : bt s (i : Int) = ((s.data.toList[i]).toNat : Int) := by
  unfold bt
  have h2 : (i : Int).toNat < s.size := by rw [Int.toNat_natCast, ← data_len]; exact h
  rw [dif_pos h2]
  simp only [Int.toNat_natCast]
  rfl
theorem drop_while_all {α : Type} (p : α → Bool) : ∀ l : List α, (∀ x ∈ l.dropWhile p, p x = true) → ∀ x ∈ l, p x = true := by
  intro l
  induction l with
  | nil => intro _ x hx; cases hx
  | cons a t ih =>
    intro h x hx
    by_cases ha : p a = true
    · rw [List.dropWhile_cons_of_pos ha] at h
      rcases List.mem_cons.1 hx with rfl | hx
      · exact ha
      · exact ih h x hx
    · rw [List.dropWhile_cons_of_neg ha] at h
      exact h x hx
theorem all_drop_while {α : Type} (p : α → Bool) : ∀ l : List α, (∀ x ∈ l, p x = true) → l.dropWhile p = [] := by
  intro l
  induction l with
  | nil => intro _; rfl
  | cons a t ih =>
    intro h
    rw [List.dropWhile_cons_of_pos (h a (List.mem_cons_self ..))]
    exact ih (fun x hx => h x (List.mem_cons_of_mem _ hx))
theorem trimS_nil (l cs : List UInt8) : (Lib.trimS l cs == []) = l.all (cs.contains ·) := by
  rw [Bool.eq_iff_iff, beq_iff_eq, List.all_eq_true]
  unfold Lib.trimS Lib.trimLeftS Lib.trimRightS
  constructor
  · intro h x hx
    have h1 : ∀ x ∈ (List.dropWhile (fun x => cs.contains x) l.reverse).reverse, cs.contains x = true :=
      drop_while_all _ _ (by rw [h]; intro x hx; cases hx)
    exact drop_while_all _ l.reverse (fun x hx => h1 x (List.mem_reverse.2 hx)) x (List.mem_reverse.2 hx)
  · intro h
    rw [all_drop_while _ l.reverse (fun x hx => h x (List.mem_reverse.1 hx))]
    rfl
def letterBytes : ByteArray := ⟨#[97, 98, 99, 100, 101, 102, 103, 104, 105, 106, 107, 108, 109, 110, 111, 112, 113, 114, 115, 116, 117, 118, 119, 120, 121, 122, 65, 66, 67, 68, 69, 70, 71, 72, 73, 74, 75, 76, 77, 78, 79, 80, 81, 82, 83, 84, 85, 86, 87, 88, 89, 90]⟩
theorem letter_all : ∀ n : Fin 256, letterBytes.data.toList.contains (UInt8.ofNat n.val) = letterB (UInt8.ofNat n.val) := by decide +kernel
theorem letter_eq (b : UInt8) : letterBytes.data.toList.contains b = letterB b := by
  have := letter_all ⟨b.toNat, b.toNat_lt⟩
  simpa using this
theorem trim_letters (s : ByteArray) (hs : s.size ≤ 9223372036854775807) : ∃ t, strings_Trim.f s letterBytes = some t ∧ (t.toList == ([] : List UInt8)) = s.data.toList.all letterB := by
  refine ⟨⟨(Lib.trimS s.data.toList letterBytes.data.toList).toArray⟩, ?_, ?_⟩
  · unfold strings_Trim.f
    rw [if_pos ⟨⟨hs, by decide +kernel⟩, by decide +kernel⟩]
  · rw [Lib.toList_data]
    show (Lib.trimS s.data.toList letterBytes.data.toList == []) = _
    rw [trimS_nil]
    congr 1
    funext b
    exact letter_eq b
theorem impl_isName_eq (s : ByteArray) (hs : s.size ≤ 9223372036854775807) : impl_isName.f s = some (isName s) := by
  unfold impl_isName.f isName
  rw [within_eq, Option.bind_some]
  by_cases h : 1 ≤ (s.size : Int) ∧ (s.size : Int) ≤ 12
  · rw [decide_eq_true h, if_pos rfl, decide_eq_true (show 1 ≤ s.size ∧ s.size ≤ 12 by omega), Bool.true_and]
    obtain ⟨t, h1, h2⟩ := trim_letters s hs
    rw [show (⟨#[97, 98, 99, 100, 101, 102, 103, 104, 105, 106, 107, 108, 109, 110, 111, 112, 113, 114, 115, 116, 117, 118, 119, 120, 121, 122, 65, 66, 67, 68, 69, 70, 71, 72, 73, 74, 75, 76, 77, 78, 79, 80, 81, 82, 83, 84, 85, 86, 87, 88, 89, 90]⟩ : ByteArray) = letterBytes from rfl, h1, Option.bind_some, h2]
  · rw [decide_eq_false h, if_neg (by decide), decide_eq_false (show ¬ (1 ≤ s.size ∧ s.size ≤ 12) by omega), Bool.false_and]
theorem spec_l1Name_ev (s : ByteArray) : Ev (fun k => spec_l1Name.f k s) (isName s) := by
  have loop : s.size ≤ 12 → ∀ d i : Nat, s.size - i = d → i ≤ s.size → Ev (fun k => spec_l1Name.l0 k s (i : Int)) ((s.data.toList.drop i).all letterB) := by
    intro hs d
    have hl := data_len s
    induction d with
    | zero =>
      intro i hd hi
      refine Ev_succ ?_
      simp only [spec_l1Name.l0]
      simp only [if_neg (show ¬ (i : Int) < (s.size : Int) by omega)]
      exact Ev_cast (Ev.now _) (by rw [List.drop_eq_nil_of_le (by omega)]; rfl)
    | succ d ih =>
      intro i hd hi
      have hlt : i < s.data.toList.length := by omega
      refine Ev_succ ?_
      simp only [spec_l1Name.l0]
      simp only [if_pos (show (i : Int) < (s.size : Int) by omega), if_pos (show 0 ≤ (i : Int) by omega)]
      rw [bt_lt hlt, w64 (by omega) (by omega)]
      rw [List.drop_eq_getElem_cons hlt, List.all_cons]
      have nxt := ih (i + 1) (by omega) (by omega)
      rw [show (((i + 1 : Nat)) : Int) = (i : Int) + 1 by simp] at nxt
      by_cases hb : letterB s.data.toList[i] = true
      · rw [hb, Bool.true_and]
        unfold letterB at hb
        replace hb := of_decide_eq_true hb
        by_cases h1 : ((s.data.toList[i]).toNat : Int) ≥ 97
        · simp only [if_pos h1]
          by_cases h2 : ((s.data.toList[i]).toNat : Int) ≤ 122
          · simp only [if_pos h2]; exact nxt
          · exfalso; omega
        · simp only [if_neg h1]
          simp only [if_pos (show ((s.data.toList[i]).toNat : Int) ≥ 65 by omega), if_pos (show ((s.data.toList[i]).toNat : Int) ≤ 90 by omega)]
          exact nxt
      · rw [Bool.eq_false_iff.mpr hb, Bool.false_and]
        unfold letterB at hb
        replace hb := fun h => hb (decide_eq_true h)
        by_cases h1 : ((s.data.toList[i]).toNat : Int) ≥ 97
        · simp only [if_pos h1, if_neg (show ¬ ((s.data.toList[i]).toNat : Int) ≤ 122 from fun h => hb (.inl ⟨by omega, by omega⟩)), if_pos (show ((s.data.toList[i]).toNat : Int) ≥ 65 by omega), if_neg (show ¬ ((s.data.toList[i]).toNat : Int) ≤ 90 by omega)]
          exact Ev.now _
        · simp only [if_neg h1]
          by_cases h3 : ((s.data.toList[i]).toNat : Int) ≥ 65
          · simp only [if_pos h3, if_neg (show ¬ ((s.data.toList[i]).toNat : Int) ≤ 90 from fun h => hb (.inr ⟨by omega, by omega⟩))]
            exact Ev.now _
          · simp only [if_neg h3]
            exact Ev.now _
  unfold spec_l1Name.f isName
  refine Ev.bind (Ev_some (l1In_eq _ _ _)) ?_
  by_cases h : 1 ≤ (s.size : Int) ∧ (s.size : Int) ≤ 12
  · rw [decide_eq_true h, decide_eq_true (show 1 ≤ s.size ∧ s.size ≤ 12 by omega), Bool.true_and]
    simp only [if_true]
    have := loop (by omega) s.size 0 (by omega) (by omega)
    rw [List.drop_zero] at this
    exact this
  · rw [decide_eq_false h, decide_eq_false (show ¬ (1 ≤ s.size ∧ s.size ≤ 12) by omega), Bool.false_and]
    simp only [Bool.false_eq_true, if_false]
    exact Ev.now _
/-! ### keys -/
theorem rd104_lt {l : List S104} {i : Nat} (h : i < l.length) : rd_T104 l (i : Int) = l[i] := by simp [rd_T104, h]
theorem rd87_lt {l : List S87} {i : Nat} (h : i < l.length) : rd_T87 l (i : Int) = l[i] := by simp [rd_T87, h]
def toT (x : S104) : S87 := ⟨x.f0, x.f1⟩
theorem szTag_eq (a b : ByteArray) (z : Int) (h0 : 0 ≤ z) (h1 : z ≤ 1048576) (ha : a.size ≤ 9223372036854775807) (hb : b.size ≤ 9223372036854775807) :
    ∃ q, laws_szTag.f a b z = some q ∧ (q < 0 ∨ (0 ≤ q ∧ q ≤ z ∧ a.size ≤ 1048576 ∧ b.size ≤ 1048576)) := by
  unfold laws_szTag.f
  rw [w64 (n := z - a.size) (by omega) (by omega)]
  by_cases c1 : z - (a.size : Int) < 0
  · exact ⟨-1, by rw [if_pos c1], .inl (by omega)⟩
  · rw [if_neg c1, w64 (n := z - a.size - b.size) (by omega) (by omega)]
    by_cases c2 : z - (a.size : Int) - b.size < 0
    · exact ⟨-1, by rw [if_pos c2], .inl (by omega)⟩
    · exact ⟨_, by rw [if_neg c2], .inr ⟨by omega, by omega, by omega, by omega⟩⟩
theorem szTagS_gen (l : List S104) (a0 : Int) (ha0 : 0 ≤ a0) (ha1 : a0 ≤ 1048576) (hl : l.length ≤ 9223372036854775807) (hs : ∀ x ∈ l, x.f0.size ≤ 9223372036854775807 ∧ x.f1.size ≤ 9223372036854775807) :
    ∃ z, Ev (fun k => laws_szTagS.f k l a0) z ∧ (z < 0 ∨ (0 ≤ z ∧ z ≤ 1048576 ∧ l.length ≤ 1048576 ∧ ∀ x ∈ l, x.f0.size ≤ 1048576 ∧ x.f1.size ≤ 1048576)) := by
  have loop : ∀ (d i : Nat) (a : Int), l.length - i = d → i ≤ l.length → l.length ≤ 1048576 → 0 ≤ a → a ≤ 1048576 → ∃ z, Ev (fun k => laws_szTagS.l0 k l a (i : Int)) z ∧ (z < 0 ∨ (0 ≤ z ∧ z ≤ a ∧ ∀ x ∈ l.drop i, x.f0.size ≤ 1048576 ∧ x.f1.size ≤ 1048576)) := by
    intro d
    induction d with
    | zero =>
      intro i a hd hi hl2 h0 h1
      refine ⟨a, Ev_succ ?_, .inr ⟨h0, Int.le_refl _, by rw [List.drop_eq_nil_of_le (by omega)]; intro s hs; cases hs⟩⟩
      simp only [laws_szTagS.l0]
      simp only [if_neg (show ¬ (i : Int) < (l.length : Int) by omega)]
      exact Ev.now _
    | succ d ih =>
      intro i a hd hi hl2 h0 h1
      have hx := hs (l[i]'(by omega)) (List.getElem_mem _)
      obtain ⟨z1, hz1, hz2⟩ := szTag_eq (l[i]'(by omega)).f0 (l[i]'(by omega)).f1 a h0 h1 hx.1 hx.2
      by_cases hn : z1 < 0
      · refine ⟨-1, Ev_succ ?_, .inl (by omega)⟩
        simp only [laws_szTagS.l0]
        simp only [if_pos (show (i : Int) < (l.length : Int) by omega), if_pos (show 0 ≤ (i : Int) by omega)]
        rw [rd104_lt (by omega)]
        refine Ev.bind (Ev_some hz1) ?_
        simp only [if_pos hn]
        exact Ev.now _
      · obtain ⟨g0, g1, g2, g3⟩ := hz2.resolve_left hn
        obtain ⟨z, hz, hz3⟩ := ih (i + 1) z1 (by omega) (by omega) hl2 g0 (by omega)
        refine ⟨z, Ev_succ ?_, ?_⟩
        · simp only [laws_szTagS.l0]
          simp only [if_pos (show (i : Int) < (l.length : Int) by omega), if_pos (show 0 ≤ (i : Int) by omega)]
          rw [rd104_lt (by omega), w64 (n := (i : Int) + 1) (by omega) (by omega)]
          refine Ev.bind (Ev_some hz1) ?_
          simp only [if_neg hn]
          exact hz
        · rcases hz3 with h | h
          · exact .inl h
          · refine .inr ⟨h.1, by omega, ?_⟩
            rw [List.drop_eq_getElem_cons (by omega)]
            intro x hx
            rcases List.mem_cons.1 hx with rfl | hx
            · exact ⟨g2, g3⟩
            · exact h.2.2 x hx
  unfold laws_szTagS.f
  rw [w64 (by omega) (by omega)]
  by_cases hn : a0 - l.length < 0
  · exact ⟨-1, by simp only [if_pos hn]; exact Ev.now _, .inl (by omega)⟩
  · simp only [if_neg hn]
    obtain ⟨z, hz, hz2⟩ := loop l.length 0 (a0 - l.length) (by omega) (by omega) (by omega) (by omega) (by omega)
    exact ⟨z, hz, hz2.imp id (fun h => ⟨h.1, by omega, by omega, by simpa using h.2.2⟩)⟩
theorem szKey_ev (m : ByteArray) (l : List S104) (s : Int) (hm : m.size ≤ 9223372036854775807) (hl : l.length ≤ 9223372036854775807) (hs : ∀ x ∈ l, x.f0.size ≤ 9223372036854775807 ∧ x.f1.size ≤ 9223372036854775807) :
    ∃ z, Ev (fun k => laws_szKey.f k m l s 1048576) z ∧ (z < 0 ∨ (m.size ≤ 1048576 ∧ l.length ≤ 1048576 ∧ ∀ x ∈ l, x.f0.size ≤ 1048576 ∧ x.f1.size ≤ 1048576)) := by
  unfold laws_szKey.f
  rw [w64 (by omega) (by omega)]
  by_cases c1 : (1048576 : Int) - m.size < 0
  · exact ⟨-1, by simp only [if_pos c1]; exact Ev.now _, .inl (by omega)⟩
  · simp only [if_neg c1]
    obtain ⟨z, hz, hz2⟩ := szTagS_gen l (1048576 - m.size) (by omega) (by omega) hl hs
    by_cases hn : z < 0
    · exact ⟨-1, Ev.bind hz (by simp only [if_pos hn]; exact Ev.now _), .inl (by omega)⟩
    · exact ⟨z, Ev.bind hz (by simp only [if_neg hn]; exact Ev.now _), hz2.imp id (fun h => ⟨by omega, h.2.2⟩)⟩
theorem toTagS_l0 (l : List S104) : ∀ (d i : Nat) (o : List S87), l.length - i = d → i ≤ l.length → l.length ≤ 1048576 → o.length = l.length → o.take i = (l.map toT).take i →
    Ev (fun k => laws_toTagS.l0 k l o (i : Int)) (l.map toT) := by
  intro d
  induction d with
  | zero =>
    intro i o hd hi hl ho ht
    refine Ev_succ ?_
    simp only [laws_toTagS.l0]
    simp only [if_neg (show ¬ (i : Int) < (l.length : Int) by omega)]
    exact Ev_cast (Ev.now _) (by rw [List.take_of_length_le (by omega), List.take_of_length_le (by simp; omega)] at ht; exact ht)
  | succ d ih =>
    intro i o hd hi hl ho ht
    refine Ev_succ ?_
    simp only [laws_toTagS.l0]
    simp only [if_pos (show (i : Int) < (l.length : Int) by omega), if_pos (show 0 ≤ (i : Int) by omega), if_pos (show (i : Int) < (o.length : Int) by omega)]
    rw [rd104_lt (by omega), w64 (by omega) (by omega)]
    refine Ev.bind (Ev_some (by unfold laws_toTag.f; rfl)) ?_
    refine ih (i + 1) _ (by omega) (by omega) hl (by simpa using ho) ?_
    apply List.ext_getElem?
    intro j
    rw [List.getElem?_take, List.getElem?_take]
    by_cases h1 : j < i
    · have := congrArg (fun x => x[j]?) ht
      simp only [List.getElem?_take, if_pos h1] at this
      rw [if_pos (by omega), if_pos (by omega), List.getElem?_set]
      simp only [Int.toNat_natCast]
      rw [if_neg (by omega), this]
    · by_cases h2 : j = i
      · subst h2
        rw [if_pos (by omega), if_pos (by omega), List.getElem?_set]
        simp only [Int.toNat_natCast, if_true]
        rw [if_pos (by omega)]
        simp [show j < l.length by omega, toT]
      · rw [if_neg (by omega), if_neg (by omega)]
theorem toKey_ev (m : ByteArray) (l : List S104) (s : Int) (hl : l.length ≤ 1048576) : Ev (fun k => laws_toKey.f k m l s) (m, l.map toT, s) := by
  unfold laws_toKey.f laws_toTagS.f
  simp only [if_pos (show 0 ≤ (l.length : Int) by omega), Int.toNat_natCast, if_pos (show l.length ≤ 8796093022208 by omega)]
  exact Ev.bind (toTagS_l0 l l.length 0 _ (by omega) (by omega) (by omega) (by simp) (by simp)) (Ev.now _)
theorem eqKey_same (m : ByteArray) (l : List S87) (s : Int) (hl : l.length ≤ 1048576) : Ev (fun k => laws_eqKey.f k m l s m l s) true := by
  have loop : ∀ (d i : Nat), l.length - i = d → i ≤ l.length → Ev (fun k => laws_eqTagS.l0 k l l (i : Int)) true := by
    intro d
    induction d with
    | zero =>
      intro i hd hi
      refine Ev_succ ?_
      simp only [laws_eqTagS.l0]
      simp only [if_neg (show ¬ (i : Int) < (l.length : Int) by omega)]
      exact Ev.now _
    | succ d ih =>
      intro i hd hi
      refine Ev_succ ?_
      simp only [laws_eqTagS.l0]
      simp only [if_pos (show (i : Int) < (l.length : Int) by omega), if_pos (show 0 ≤ (i : Int) by omega)]
      rw [w64 (by omega) (by omega)]
      refine Ev.bind (Ev_some (show laws_eqTag.f _ _ _ _ = some true by unfold laws_eqTag.f; simp)) ?_
      simp only [if_true]
      exact ih (i + 1) (by omega) (by omega)
  unfold laws_eqKey.f laws_eqTagS.f
  simp only [if_true]
  refine Ev.bind (loop l.length 0 (by omega) (by omega)) ?_
  simp only [if_true]
  exact Ev.now _
def tagOk (l : List S87) (i : Nat) : Bool := isName (rd_T87 l (i : Int)).f0 && isName (rd_T87 l (i : Int)).f1 && (decide (i = 0) || Op.bytesLess (rd_T87 l ((i : Int) - 1)).f0.toList (rd_T87 l (i : Int)).f0.toList)
def tagsFrom (l : List S87) : Nat → Nat → Bool
  | 0, _ => true
  | d + 1, i => tagOk l i && tagsFrom l d (i + 1)
def goodKey (m : ByteArray) (l : List S87) (s : Int) : Bool := isName m && decide (l.length ≤ 4) && decide (0 ≤ s ∧ s ≤ 1000000000) && tagsFrom l l.length 0
theorem spec_GoodKey_ev (m : ByteArray) (l : List S87) (s : Int) (hm : m.size ≤ 1048576) (hl : l.length ≤ 1048576) (hs : ∀ x ∈ l, x.f0.size ≤ 1048576 ∧ x.f1.size ≤ 1048576) : Ev (fun k => spec_GoodKey.f k m l s) (goodKey m l s) := by
  have loop : ∀ d i : Nat, l.length - i = d → i ≤ l.length → Ev (fun k => spec_GoodKey.l0 k l (l.length : Int) (i : Int) m l s) (tagsFrom l d i) := by
    intro d
    induction d with
    | zero =>
      intro i hd hi
      refine Ev_succ ?_
      simp only [spec_GoodKey.l0]
      simp only [if_neg (show ¬ (i : Int) < (l.length : Int) by omega)]
      exact Ev.now _
    | succ d ih =>
      intro i hd hi
      have hlt : i < l.length := by omega
      have hx := hs (l[i]) (List.getElem_mem _)
      rw [← rd87_lt hlt] at hx
      refine Ev_succ ?_
      have nxt := ih (i + 1) (by omega) (by omega)
      rw [show (((i + 1 : Nat)) : Int) = (i : Int) + 1 by simp] at nxt
      simp only [spec_GoodKey.l0]
      simp only [if_pos (show (i : Int) < (l.length : Int) by omega), if_pos (show 0 ≤ (i : Int) by omega)]
      rw [w64 (n := (i : Int) + 1) (by omega) (by omega)]
      refine Ev.bind (spec_l1Name_ev _) ?_
      by_cases h1 : isName (rd_T87 l (i : Int)).f0 = true
      · simp only [if_pos h1]
        refine Ev.bind (spec_l1Name_ev _) ?_
        by_cases h2 : isName (rd_T87 l (i : Int)).f1 = true
        · simp only [if_pos h2]
          by_cases h0 : (i : Int) > 0
          · simp only [if_pos h0]
            rw [w64 (n := (i : Int) - 1) (by omega) (by omega)]
            simp only [if_pos (show 0 ≤ (i : Int) - 1 by omega), if_pos (show (i : Int) - 1 < (l.length : Int) by omega)]
            by_cases h3 : Op.bytesLess (rd_T87 l ((i : Int) - 1)).f0.toList (rd_T87 l (i : Int)).f0.toList = true
            · simp only [if_pos h3]
              refine Ev_cast nxt ?_
              have : tagOk l i = true := by unfold tagOk; rw [h1, h2, h3, Bool.or_true]; rfl
              simp [tagsFrom, this]
            · simp only [if_neg h3]
              refine Ev_cast (Ev.now _) ?_
              have : tagOk l i = false := by unfold tagOk; rw [Bool.eq_false_iff.mpr h3, decide_eq_false (show ¬ i = 0 by omega), Bool.or_false, Bool.and_false]
              simp [tagsFrom, this]
          · simp only [if_neg h0]
            refine Ev_cast nxt ?_
            have : tagOk l i = true := by unfold tagOk; rw [h1, h2, decide_eq_true (show i = 0 by omega)]; rfl
            simp [tagsFrom, this]
        · simp only [if_neg h2]
          refine Ev_cast (Ev.now _) ?_
          have : tagOk l i = false := by unfold tagOk; rw [Bool.eq_false_iff.mpr h2, Bool.and_false, Bool.false_and]
          simp [tagsFrom, this]
      · simp only [if_neg h1]
        refine Ev_cast (Ev.now _) ?_
        have : tagOk l i = false := by unfold tagOk; rw [Bool.eq_false_iff.mpr h1, Bool.false_and, Bool.false_and]
        simp [tagsFrom, this]
  have bad : goodKey m l s = false → Ev (fun k => spec_GoodKey.j0 k true m l s) (goodKey m l s) := by
    intro h
    refine Ev_succ ?_
    simp only [spec_GoodKey.j0, if_true]
    exact Ev_cast (Ev.now _) h.symm
  unfold spec_GoodKey.f
  refine Ev.bind (spec_l1Name_ev _) ?_
  by_cases h1 : isName m = true
  · simp only [if_pos h1]
    by_cases h2 : (l.length : Int) > 4
    · simp only [if_pos h2]
      exact bad (by unfold goodKey; rw [decide_eq_false (show ¬ l.length ≤ 4 by omega), Bool.and_false, Bool.false_and, Bool.false_and])
    · simp only [if_neg h2]
      refine Ev.bind (Ev_some (l1In_eq _ _ _)) ?_
      by_cases h3 : 0 ≤ s ∧ s ≤ 1000000000
      · rw [decide_eq_true h3, Bool.not_true]
        refine Ev_succ ?_
        simp only [spec_GoodKey.j0, Bool.false_eq_true, if_false]
        refine Ev_cast (loop l.length 0 (by omega) (by omega)) ?_
        unfold goodKey
        rw [h1, decide_eq_true (show l.length ≤ 4 by omega), decide_eq_true h3, Bool.true_and, Bool.true_and, Bool.true_and]
      · rw [decide_eq_false h3, Bool.not_false]
        exact bad (by unfold goodKey; rw [decide_eq_false h3, Bool.and_false, Bool.false_and])
  · simp only [if_neg h1]
    exact bad (by unfold goodKey; rw [Bool.eq_false_iff.mpr h1, Bool.false_and, Bool.false_and, Bool.false_and])
theorem impl_GoodKey_ev (m : ByteArray) (l : List S87) (s : Int) (hm : m.size ≤ 1048576) (hl : l.length ≤ 1048576) (hs : ∀ x ∈ l, x.f0.size ≤ 1048576 ∧ x.f1.size ≤ 1048576) : Ev (fun k => impl_GoodKey.f k m l s) (goodKey m l s) := by
  have loop : ∀ d i : Nat, l.length - i = d → i ≤ l.length → Ev (fun k => impl_GoodKey.l0 k l (l.length : Int) (i : Int) m l s) (tagsFrom l d i) := by
    intro d
    induction d with
    | zero =>
      intro i hd hi
      refine Ev_succ ?_
      simp only [impl_GoodKey.l0]
      simp only [if_neg (show ¬ (i : Int) < (l.length : Int) by omega)]
      exact Ev.now _
    | succ d ih =>
      intro i hd hi
      have hlt : i < l.length := by omega
      have hx := hs (l[i]) (List.getElem_mem _)
      rw [← rd87_lt hlt] at hx
      refine Ev_succ ?_
      have nxt := ih (i + 1) (by omega) (by omega)
      rw [show (((i + 1 : Nat)) : Int) = (i : Int) + 1 by simp] at nxt
      simp only [impl_GoodKey.l0]
      simp only [if_pos (show (i : Int) < (l.length : Int) by omega), if_pos (show 0 ≤ (i : Int) by omega)]
      rw [w64 (n := (i : Int) + 1) (by omega) (by omega)]
      refine Ev.bind (Ev_some (impl_isName_eq _ (by omega))) ?_
      by_cases h1 : isName (rd_T87 l (i : Int)).f0 = true
      · simp only [if_pos h1]
        refine Ev.bind (Ev_some (impl_isName_eq _ (by omega))) ?_
        by_cases h2 : isName (rd_T87 l (i : Int)).f1 = true
        · simp only [if_pos h2]
          by_cases h0 : (i : Int) > 0
          · simp only [if_pos h0]
            rw [w64 (n := (i : Int) - 1) (by omega) (by omega)]
            simp only [if_pos (show 0 ≤ (i : Int) - 1 by omega), if_pos (show (i : Int) - 1 < (l.length : Int) by omega)]
            by_cases h3 : Op.bytesLess (rd_T87 l ((i : Int) - 1)).f0.toList (rd_T87 l (i : Int)).f0.toList = true
            · simp only [if_pos h3]
              refine Ev_cast nxt ?_
              have : tagOk l i = true := by unfold tagOk; rw [h1, h2, h3, Bool.or_true]; rfl
              simp [tagsFrom, this]
            · simp only [if_neg h3]
              refine Ev_cast (Ev.now _) ?_
              have : tagOk l i = false := by unfold tagOk; rw [Bool.eq_false_iff.mpr h3, decide_eq_false (show ¬ i = 0 by omega), Bool.or_false, Bool.and_false]
              simp [tagsFrom, this]
          · simp only [if_neg h0]
            refine Ev_cast nxt ?_
            have : tagOk l i = true := by unfold tagOk; rw [h1, h2, decide_eq_true (show i = 0 by omega)]; rfl
            simp [tagsFrom, this]
        · simp only [if_neg h2]
          refine Ev_cast (Ev.now _) ?_
          have : tagOk l i = false := by unfold tagOk; rw [Bool.eq_false_iff.mpr h2, Bool.and_false, Bool.false_and]
          simp [tagsFrom, this]
      · simp only [if_neg h1]
        refine Ev_cast (Ev.now _) ?_
        have : tagOk l i = false := by unfold tagOk; rw [Bool.eq_false_iff.mpr h1, Bool.false_and, Bool.false_and]
        simp [tagsFrom, this]
  have bad : goodKey m l s = false → Ev (fun k => impl_GoodKey.j0 k true m l s) (goodKey m l s) := by
    intro h
    refine Ev_succ ?_
    simp only [impl_GoodKey.j0, if_true]
    exact Ev_cast (Ev.now _) h.symm
  unfold impl_GoodKey.f
  refine Ev.bind (Ev_some (impl_isName_eq _ (by omega))) ?_
  by_cases h1 : isName m = true
  · simp only [if_pos h1]
    by_cases h2 : (l.length : Int) > 4
    · simp only [if_pos h2]
      exact bad (by unfold goodKey; rw [decide_eq_false (show ¬ l.length ≤ 4 by omega), Bool.and_false, Bool.false_and, Bool.false_and])
    · simp only [if_neg h2]
      refine Ev.bind (Ev_some (within_eq _ _ _)) ?_
      by_cases h3 : 0 ≤ s ∧ s ≤ 1000000000
      · rw [decide_eq_true h3, Bool.not_true]
        refine Ev_succ ?_
        simp only [impl_GoodKey.j0, Bool.false_eq_true, if_false]
        refine Ev_cast (loop l.length 0 (by omega) (by omega)) ?_
        unfold goodKey
        rw [h1, decide_eq_true (show l.length ≤ 4 by omega), decide_eq_true h3, Bool.true_and, Bool.true_and, Bool.true_and]
      · rw [decide_eq_false h3, Bool.not_false]
        exact bad (by unfold goodKey; rw [decide_eq_false h3, Bool.and_false, Bool.false_and])
  · simp only [if_neg h1]
    exact bad (by unfold goodKey; rw [Bool.eq_false_iff.mpr h1, Bool.false_and, Bool.false_and, Bool.false_and])
/-! ### PutFixed, ReadFixed -/
def fixedB : Nat → Nat → List Int
  | _, 0 => []
  | n, m + 1 => fixedB (n / 256) m ++ [((n % 256 : Nat) : Int)]
theorem fixedB_length : ∀ (m n : Nat), (fixedB n m).length = m := by
  intro m
  induction m with
  | zero => intro n; rfl
  | succ m ih => intro n; simp [fixedB, ih]
theorem fixedB_bytes : ∀ (m n : Nat), Bytes (fixedB n m) := by
  intro m
  induction m with
  | zero => intro n; exact Bytes.nil
  | succ m ih => intro n; exact (ih _).app (Bytes.one (by omega) (by omega))
theorem two_pow_8 (j : Nat) : (2 : Int) ^ (8 * j) = 256 ^ j := by rw [Int.pow_mul]; rfl
theorem shr8 (n j : Nat) (hj : j ≤ 8) : shr .i64 (n : Int) (8 * (j : Int)) = ((n / 256 ^ j : Nat) : Int) := by
  unfold shr
  rw [show (min (8 * (j : Int)).toNat IntKind.i64.bits) = 8 * j by simp [IntKind.bits]; omega, two_pow_8, Int.natCast_ediv, Int.natCast_pow]
  rfl
theorem spec_l1Fixed_l0 (n : Nat) : ∀ (j m : Nat), m + j ≤ 8 → Ev (fun k => spec_l1Fixed.l0 k (n : Int) (fixedB (n / 256 ^ j) m) ((j : Int) - 1)) (fixedB n (m + j)) := by
  intro j
  induction j with
  | zero =>
    intro m h
    refine Ev_succ ?_
    simp only [spec_l1Fixed.l0, if_neg (show ¬ ((0 : Nat) : Int) - 1 ≥ 0 by omega)]
    exact Ev_cast (Ev.now _) (by simp)
  | succ j ih =>
    intro m h
    refine Ev_succ ?_
    rw [show ((j + 1 : Nat) : Int) - 1 = (j : Int) by omega]
    simp only [spec_l1Fixed.l0]
    rw [w64 (n := 8 * (j : Int)) (by omega) (by omega), wrap_u64, show (8 * (j : Int)) % 18446744073709551616 = 8 * (j : Int) by omega, w64 (by omega) (by omega), shr8 n j (by omega)]
    have hl := fixedB_length m (n / 256 ^ (j + 1))
    simp only [if_pos (show (j : Int) ≥ 0 by omega), if_pos (show 0 ≤ 8 * (j : Int) by omega), if_pos (show (fixedB (n / 256 ^ (j + 1)) m).length < 140737488355328 by omega)]
    have e : fixedB (n / 256 ^ (j + 1)) m ++ [((n / 256 ^ j : Nat) : Int) % 256] = fixedB (n / 256 ^ j) (m + 1) := by
      simp only [fixedB]
      rw [Nat.div_div_eq_div_mul, ← Nat.pow_succ]
      congr 1
    rw [e]
    exact Ev_cast (ih (m + 1) (by omega)) (by congr 1; omega)
theorem fixedB_zero_div (n m : Nat) (h : m = 8 → n < 18446744073709551616) : True := trivial
theorem spec_l1Fixed_ev (n m : Nat) (h : m ≤ 8) : Ev (fun k => spec_l1Fixed.f k (n : Int) (m : Int)) (fixedB n m) := by
  unfold spec_l1Fixed.f
  rw [w64 (by omega) (by omega)]
  exact Ev_cast (spec_l1Fixed_l0 n m 0 (by omega)) (by simp)
/-- What PutFixed tells. -/
def putFixed (n m : Int) : List Int × Bool := if 0 ≤ n ∧ 1 ≤ m ∧ m ≤ 8 ∧ (m < 8 → n.toNat / 256 ^ m.toNat = 0) then (fixedB n.toNat m.toNat, true) else ([], false)
theorem impl_PutFixed_l0 : ∀ (j n : Nat) (tl : List Int), j + tl.length ≤ 8 → Ev (fun k => impl_PutFixed.l0 k (n : Int) (List.replicate j 0 ++ tl) ((j : Int) - 1)) (fixedB n j ++ tl, true) := by
  intro j
  induction j with
  | zero =>
    intro n tl h
    refine Ev_succ ?_
    simp only [impl_PutFixed.l0, if_neg (show ¬ ((0 : Nat) : Int) - 1 ≥ 0 by omega)]
    exact Ev_cast (Ev.now _) (by simp [fixedB])
  | succ j ih =>
    intro n tl h
    refine Ev_succ ?_
    rw [show ((j + 1 : Nat) : Int) - 1 = (j : Int) by omega]
    simp only [impl_PutFixed.l0]
    have hl : (List.replicate (j + 1) (0 : Int) ++ tl).length = j + 1 + tl.length := by simp
    simp only [if_pos (show (j : Int) ≥ 0 by omega), if_pos (show 0 ≤ (j : Int) by omega), if_pos (show (j : Int) < ((List.replicate (j + 1) (0 : Int) ++ tl).length : Int) by omega)]
    rw [w64 (by omega) (by omega)]
    have e : (List.replicate (j + 1) (0 : Int) ++ tl).set ((j : Int)).toNat ((n : Int) % 256) = List.replicate j 0 ++ ((n : Int) % 256 :: tl) := by
      rw [Int.toNat_natCast, List.replicate_succ', List.append_assoc, List.set_append_right _ _ (by simp)]
      simp
    rw [e, show (n : Int) / 256 = ((n / 256 : Nat) : Int) by omega]
    exact Ev_cast (ih (n / 256) ((n : Int) % 256 :: tl) (by simp; omega)) (by simp [fixedB])
theorem impl_PutFixed_ev (n m : Int) (hn : n ≤ 9223372036854775807) : Ev (fun k => impl_PutFixed.f k n m) (putFixed n m) := by
  have bad : Ev (fun k => impl_PutFixed.j0 k n m true) ([], false) := by
    refine Ev_succ ?_
    simp only [impl_PutFixed.j0, if_true]
    exact Ev.now _
  unfold impl_PutFixed.f putFixed
  by_cases h0 : n < 0
  · simp only [if_pos h0]; rw [if_neg (by omega)]; exact bad
  simp only [if_neg h0]
  refine Ev.bind (Ev_some (within_eq _ _ _)) ?_
  by_cases h : 1 ≤ m ∧ m ≤ 8
  · rw [decide_eq_true h]
    simp only [if_true]
    have good : Ev (fun k => impl_PutFixed.j0 k n m false) (fixedB n.toNat m.toNat, true) := by
      refine Ev_succ ?_
      simp only [impl_PutFixed.j0, Bool.false_eq_true, if_false, if_pos (show 0 ≤ m by omega), if_pos (show m.toNat ≤ 281474976710656 by omega)]
      rw [w64 (by omega) (by omega)]
      have := impl_PutFixed_l0 m.toNat n.toNat [] (by simp; omega)
      simp only [List.append_nil] at this
      rwa [show ((n.toNat : Nat) : Int) = n by omega, show ((m.toNat : Nat) : Int) = m by omega] at this
    obtain ⟨N, rfl⟩ := Int.eq_ofNat_of_zero_le (show 0 ≤ n by omega)
    obtain ⟨M, rfl⟩ := Int.eq_ofNat_of_zero_le (show 0 ≤ m by omega)
    simp only [Int.toNat_natCast] at good ⊢
    by_cases h8 : (M : Int) < 8
    · simp only [if_pos h8]
      rw [w64 (n := 8 * (M : Int)) (by omega) (by omega), shr8 N M (by omega)]
      simp only [if_pos (show 0 ≤ 8 * (M : Int) by omega)]
      by_cases hz : N / 256 ^ M = 0
      · rw [if_pos ⟨by omega, h.1, h.2, fun _ => hz⟩, show (((N / 256 ^ M : Nat) : Int) != 0) = false by rw [hz]; rfl]
        exact good
      · rw [if_neg (fun hh => hz (hh.2.2.2 h8)), show (((N / 256 ^ M : Nat) : Int) != 0) = true by simp only [bne_iff_ne]; omega]
        exact bad
    · simp only [if_neg h8]
      rw [if_pos ⟨by omega, h.1, h.2, fun h' => absurd h' h8⟩]
      exact good
  · rw [decide_eq_false h]
    simp only [Bool.false_eq_true, if_false]
    rw [if_neg (by omega)]
    exact bad
/-! ### the bytes of a key -/
theorem kb_app (a b : ByteArray) : bytesOf (a ++ b) = bytesOf a ++ bytesOf b := by simp [bytesOf, ByteArray.data_append]
theorem kb_one (a : UInt8) : bytesOf ⟨#[a]⟩ = [(a.toNat : Int)] := rfl
theorem kb_nums {M : List Int} (h : Bytes M) : bytesOf (strOfNums M) = M := by
  unfold bytesOf strOfNums
  simp only [List.map_map]
  have : ∀ x ∈ M, ((fun b : UInt8 => (b.toNat : Int)) ∘ fun n : Int => UInt8.ofNat n.toNat) x = x := by
    intro x hx
    have := h x hx
    simp only [Function.comp_apply, UInt8.toNat_ofNat']
    omega
  rw [List.map_congr_left this, List.map_id']
theorem kb_inj {a b : ByteArray} (h : bytesOf a = bytesOf b) : a = b := by
  have h1 : a.data.toList = b.data.toList := by
    unfold bytesOf at h
    have inj : ∀ (x y : List UInt8), (x.map fun c => (c.toNat : Int)) = (y.map fun c => (c.toNat : Int)) → x = y := by
      intro x
      induction x with
      | nil => intro y h; cases y with
        | nil => rfl
        | cons _ _ => simp at h
      | cons c x ih =>
        intro y h
        cases y with
        | nil => simp at h
        | cons d y =>
          simp only [List.map_cons, List.cons.injEq] at h
          rw [ih y h.2]
          congr 1
          exact UInt8.toNat.inj (by have := h.1; omega)
    exact inj _ _ h
  cases a; cases b
  simp only [ByteArray.mk.injEq]
  exact Array.toList_inj.1 h1
theorem tagsFrom_all {l : List S87} : ∀ (d i : Nat), tagsFrom l d i = true → ∀ j, i ≤ j → j < i + d → tagOk l j = true := by
  intro d
  induction d with
  | zero => intro i _ j h1 h2; omega
  | succ d ih =>
    intro i h j h1 h2
    simp only [tagsFrom, Bool.and_eq_true] at h
    by_cases e : j = i
    · subst e; exact h.1
    · exact ih (i + 1) h.2 j (by omega) (by omega)
theorem isName_small {s : ByteArray} (h : isName s = true) : s.size ≤ 12 := by
  unfold isName at h
  simp only [Bool.and_eq_true, decide_eq_true_eq] at h
  omega
theorem goodKey_small {m : ByteArray} {l : List S87} {s : Int} (h : goodKey m l s = true) : m.size ≤ 12 ∧ l.length ≤ 4 ∧ (0 ≤ s ∧ s ≤ 1000000000) ∧ ∀ x ∈ l, x.f0.size ≤ 12 ∧ x.f1.size ≤ 12 := by
  unfold goodKey at h
  simp only [Bool.and_eq_true, decide_eq_true_eq] at h
  refine ⟨isName_small h.1.1.1, h.1.1.2, h.1.2, fun x hx => ?_⟩
  obtain ⟨i, hi, rfl⟩ := List.mem_iff_getElem.1 hx
  have h2 := tagsFrom_all _ _ h.2 i (by omega) (by omega)
  unfold tagOk at h2
  rw [rd87_lt hi] at h2
  simp only [Bool.and_eq_true] at h2
  exact ⟨isName_small h2.1.1, isName_small h2.1.2⟩
theorem tg_len : ∀ l : List S87, (∀ x ∈ l, x.f0.size ≤ 12 ∧ x.f1.size ≤ 12) → (impl_keyBytes.tg l).length ≤ 27 * l.length := by
  intro l
  induction l with
  | nil => intro _; simp [impl_keyBytes.tg]
  | cons x t ih =>
    intro h
    have h1 := ih (fun y hy => h y (List.mem_cons_of_mem _ hy))
    have h2 := h x (List.mem_cons_self ..)
    unfold impl_keyBytes.tg at h1 ⊢
    rw [List.flatMap_cons, List.length_append]
    simp only [List.length_append, List.length_cons, List.length_nil, bytesOf_length]
    omega
theorem pre_small {m : ByteArray} {l : List S87} (hm : m.size ≤ 12) (hl : l.length ≤ 4) (hs : ∀ x ∈ l, x.f0.size ≤ 12 ∧ x.f1.size ≤ 12) (i : Nat) : (impl_keyBytes.pre m l i).length ≤ 121 := by
  have h1 := tg_len (l.take i) (fun x hx => hs x (List.mem_of_mem_take hx))
  have h2 : (l.take i).length ≤ 4 := by rw [List.length_take]; omega
  unfold impl_keyBytes.pre
  simp only [List.length_append, List.length_cons, List.length_nil, bytesOf_length]
  omega
/-- the bytes of a good key -/
def keyB (m : ByteArray) (l : List S87) (s : Int) : List Int := impl_keyBytes.pre m l l.length ++ [1] ++ fixedB s.toNat 8
theorem keyB_len {m : ByteArray} {l : List S87} {s : Int} (h : goodKey m l s = true) : (keyB m l s).length ≤ 130 := by
  obtain ⟨h1, h2, _, h3⟩ := goodKey_small h
  have := pre_small h1 h2 h3 l.length
  unfold keyB
  simp only [List.length_append, List.length_cons, List.length_nil, fixedB_length]
  omega
theorem spec_l1Key_ev {m : ByteArray} {l : List S87} {s : Int} (h : goodKey m l s = true) : ∃ r, Ev (fun k => spec_l1Key.f k m l s) r ∧ bytesOf r = keyB m l s := by
  obtain ⟨h1, h2, h3, h4⟩ := goodKey_small h
  have loop : ∀ (d i : Nat) (x : ByteArray), l.length - i = d → i ≤ l.length → bytesOf x = impl_keyBytes.pre m l i → ∃ r, Ev (fun k => spec_l1Key.l0 k x l (l.length : Int) (i : Int) m l s) r ∧ bytesOf r = keyB m l s := by
    intro d
    induction d with
    | zero =>
      intro i x hd hi hx
      have hil : i = l.length := by omega
      subst hil
      have hxl : x.size ≤ 121 := by rw [← bytesOf_length, hx]; exact pre_small h1 h2 h4 _
      have hfb : Bytes (fixedB s.toNat 8) := fixedB_bytes _ _
      have hfs : (strOfNums (fixedB s.toNat 8)).size = 8 := by rw [← bytesOf_length, kb_nums hfb, fixedB_length]
      refine ⟨(x ++ (⟨#[1]⟩ : ByteArray)) ++ strOfNums (fixedB s.toNat 8), Ev_succ ?_, ?_⟩
      · simp only [spec_l1Key.l0]
        simp only [if_neg (show ¬ ((l.length : Nat) : Int) < (l.length : Int) by omega), if_pos (show x.size + 1 ≤ 9223372036854775807 by omega)]
        have hf := spec_l1Fixed_ev s.toNat 8 (by omega)
        rw [show ((s.toNat : Nat) : Int) = s by omega] at hf
        refine Ev.bind hf ?_
        have hsz : (x ++ (⟨#[1]⟩ : ByteArray)).size + (strOfNums (fixedB s.toNat 8)).size ≤ 9223372036854775807 := by
          rw [ByteArray.size_append, hfs]
          show x.size + 1 + 8 ≤ _
          omega
        simp only [if_pos hsz]
        exact Ev.now _
      · rw [kb_app, kb_app, kb_nums hfb, hx]
        rfl
    | succ d ih =>
      intro i x hd hi hx
      have hlt : i < l.length := by omega
      have hxl : x.size ≤ 121 := by rw [← bytesOf_length, hx]; exact pre_small h1 h2 h4 _
      have hn := h4 (l[i]) (List.getElem_mem _)
      rw [← rd87_lt hlt] at hn
      have hp := impl_keyBytes.pre_succ m l i hlt
      obtain ⟨y, hy⟩ : ∃ y, rd_T87 l (i : Int) = y := ⟨_, rfl⟩
      rw [hy] at hn hp
      have s1 : (⟨#[1]⟩ : ByteArray).size = 1 := rfl
      have s2 : (⟨#[2]⟩ : ByteArray).size = 1 := rfl
      have s0 : (⟨#[0]⟩ : ByteArray).size = 1 := rfl
      obtain ⟨r, hr, hr2⟩ := ih (i + 1) (x ++ (((((⟨#[2]⟩ : ByteArray) ++ y.f0) ++ (⟨#[1]⟩ : ByteArray)) ++ y.f1) ++ (⟨#[0]⟩ : ByteArray))) (by omega) (by omega) (by
        rw [hp, ← hx]
        simp only [kb_app, kb_one, List.append_assoc]
        rfl)
      refine ⟨r, Ev_succ ?_, hr2⟩
      simp only [spec_l1Key.l0, hy]
      simp only [if_pos (show (i : Int) < (l.length : Int) by omega), if_pos (show 0 ≤ (i : Int) by omega), if_pos (show 1 + y.f0.size ≤ 9223372036854775807 by omega)]
      simp only [if_pos (show ((⟨#[2]⟩ : ByteArray) ++ y.f0).size + 1 ≤ 9223372036854775807 by rw [ByteArray.size_append, s2]; omega)]
      simp only [if_pos (show (((⟨#[2]⟩ : ByteArray) ++ y.f0) ++ (⟨#[1]⟩ : ByteArray)).size + y.f1.size ≤ 9223372036854775807 by rw [ByteArray.size_append, ByteArray.size_append, s2, s1]; omega)]
      simp only [if_pos (show ((((⟨#[2]⟩ : ByteArray) ++ y.f0) ++ (⟨#[1]⟩ : ByteArray)) ++ y.f1).size + 1 ≤ 9223372036854775807 by rw [ByteArray.size_append, ByteArray.size_append, ByteArray.size_append, s2, s1]; omega)]
      simp only [if_pos (show x.size + (((((⟨#[2]⟩ : ByteArray) ++ y.f0) ++ (⟨#[1]⟩ : ByteArray)) ++ y.f1) ++ (⟨#[0]⟩ : ByteArray)).size ≤ 9223372036854775807 by rw [ByteArray.size_append, ByteArray.size_append, ByteArray.size_append, ByteArray.size_append, s2, s1, s0]; omega)]
      rw [w64 (n := (i : Int) + 1) (by omega) (by omega)]
      exact hr
  obtain ⟨r, hr, hr2⟩ := loop l.length 0 (m ++ (⟨#[0]⟩ : ByteArray)) (by omega) (by omega) (by rw [kb_app, kb_one]; simp [impl_keyBytes.pre, impl_keyBytes.tg])
  refine ⟨r, ?_, hr2⟩
  unfold spec_l1Key.f
  simp only [if_pos (show m.size + 1 ≤ 9223372036854775807 by omega)]
  exact hr
theorem impl_keyBytes_ev {m : ByteArray} {l : List S87} {s : Int} (h : goodKey m l s = true) : Ev (fun k => impl_keyBytes.f k m l s) (keyB m l s) := by
  obtain ⟨h1, h2, h3, h4⟩ := goodKey_small h
  have := pre_small h1 h2 h4 l.length
  unfold impl_keyBytes.f
  refine Ev.bind (impl_PutFixed_ev s 8 (by omega)) ?_
  have e : putFixed s 8 = (fixedB s.toNat 8, true) := by unfold putFixed; rw [if_pos ⟨by omega, by omega, by omega, fun h => absurd h (by omega)⟩]; rfl
  rw [e]
  simp only [if_pos (show (impl_keyBytes.pre m l l.length).length ≤ 2097152 ∧ (fixedB s.toNat 8).length ≤ 8 from ⟨by omega, by rw [fixedB_length]; exact Nat.le_refl _⟩)]
  exact Ev.now _
/-- what KeyBytes tells -/
def keyBytesR (m : ByteArray) (l : List S87) (s : Int) : List Int × Bool := if goodKey m l s = true then (keyB m l s, true) else ([], false)
theorem keyBytesR_len (m : ByteArray) (l : List S87) (s : Int) : (keyBytesR m l s).1.length ≤ 130 := by
  unfold keyBytesR
  split
  · rename_i h; exact keyB_len h
  · simp
theorem impl_KeyBytes_ev (m : ByteArray) (l : List S87) (s : Int) (hm : m.size ≤ 1048576) (hl : l.length ≤ 1048576) (hs : ∀ x ∈ l, x.f0.size ≤ 1048576 ∧ x.f1.size ≤ 1048576) : Ev (fun k => impl_KeyBytes.f k m l s) (keyBytesR m l s) := by
  unfold impl_KeyBytes.f keyBytesR
  refine Ev.bind (impl_GoodKey_ev m l s hm hl hs) ?_
  by_cases hg : goodKey m l s = true
  · simp only [if_pos hg]
    exact Ev.bind (impl_keyBytes_ev hg) (Ev.now _)
  · simp only [if_neg hg]
    exact Ev.now _
theorem spec_KeyBytes_ev (m : ByteArray) (l : List S87) (s : Int) (hm : m.size ≤ 1048576) (hl : l.length ≤ 1048576) (hs : ∀ x ∈ l, x.f0.size ≤ 1048576 ∧ x.f1.size ≤ 1048576) : Ev (fun k => spec_KeyBytes.f k m l s) (keyBytesR m l s) := by
  unfold spec_KeyBytes.f keyBytesR
  refine Ev.bind (spec_GoodKey_ev m l s hm hl hs) ?_
  by_cases hg : goodKey m l s = true
  · simp only [if_pos hg]
    obtain ⟨r, hr, hr2⟩ := spec_l1Key_ev hg
    have hk := keyB_len hg
    refine Ev.bind hr ?_
    rw [← hr2, bytesOf_length] at hk
    simp only [if_pos (show r.size ≤ 1048576 by omega)]
    exact Ev_cast (Ev.now _) (by rw [hr2])
  · simp only [if_neg hg]
    exact Ev.now _
theorem markTagS_ev (l : List S87) (hl : l.length ≤ 1048576) : ∃ q, Ev (fun k => laws_markTagS.f k l 1) q ∧ 0 ≤ q.1 := by
  have loop : ∀ (d i : Nat) (o : List S87) (a : Nat), o.length - i = d → i ≤ o.length → o.length ≤ 1048576 → a + 2 * d ≤ 10000000 → ∃ q, Ev (fun k => laws_markTagS.l0 k o (a : Int) (i : Int)) q ∧ 0 ≤ q.1 := by
    intro d
    induction d with
    | zero =>
      intro i o a hd hi hl ha
      refine ⟨((a : Int), o), Ev_succ ?_, by show 0 ≤ (a : Int); omega⟩
      simp only [laws_markTagS.l0]
      simp only [if_neg (show ¬ (i : Int) < (o.length : Int) by omega)]
      exact Ev.now _
    | succ d ih =>
      intro i o a hd hi hl ha
      obtain ⟨t1, ht1⟩ := markText_ev a (by omega)
      obtain ⟨t2, ht2⟩ := markText_ev (a + 1) (by omega)
      have e1 : wrap64 ((a : Int) + 1) = ((a + 1 : Nat) : Int) := by rw [w64 (by omega) (by omega)]; omega
      have e2 : wrap64 (((a + 1 : Nat) : Int) + 1) = ((a + 2 : Nat) : Int) := by rw [w64 (by omega) (by omega)]; omega
      have e3 : wrap64 ((i : Int) + 1) = ((i + 1 : Nat) : Int) := by rw [w64 (by omega) (by omega)]; omega
      obtain ⟨q, hq, hq0⟩ := ih (i + 1) ((o.set i ⟨t1, (rd_T87 o (i : Int)).f1⟩).set i ⟨(rd_T87 (o.set i ⟨t1, (rd_T87 o (i : Int)).f1⟩) (i : Int)).f0, t2⟩) (a + 2) (by simp; omega) (by simp; omega) (by simp; omega) (by omega)
      refine ⟨q, Ev_succ ?_, hq0⟩
      simp only [laws_markTagS.l0]
      simp only [if_pos (show (i : Int) < (o.length : Int) by omega), if_pos (show 0 ≤ (i : Int) by omega), Option.bind_some, Int.toNat_natCast, e1, e2, e3]
      refine Ev.bind ht1 ?_
      refine Ev.bind ht2 ?_
      exact hq
  unfold laws_markTagS.f
  exact loop l.length 0 l 1 (by omega) (by omega) hl (by omega)
theorem markKey_ev (m : ByteArray) (l : List S87) (s : Int) (hl : l.length ≤ 1048576) : ∃ q, Ev (fun k => laws_markKey.f k m l s 1) q ∧ 0 ≤ q.1 := by
  obtain ⟨q, hq, h0⟩ := markTagS_ev l hl
  unfold laws_markKey.f
  exact ⟨_, Ev.bind hq (Ev.now _), h0⟩
theorem FnExactKeyBytes : laws_FnExactKeyBytes.Pure := by
  intro m l s h0 h1 h2
  have hm : m.size ≤ 9223372036854775807 := by have := h0; unfold maxLen at this; omega
  have hb : ∀ x ∈ l, x.f0.size ≤ 9223372036854775807 ∧ x.f1.size ≤ 9223372036854775807 := by
    intro x hx
    have g := h1.2 x hx
    have g1 := g.1
    have g2 := g.2
    unfold maxLen at g1 g2
    omega
  refine Ev.rounds ?_
  unfold laws_FnExactKeyBytes.f
  obtain ⟨z, hz, hz2⟩ := szKey_ev m l s hm (by have := h1.1; unfold maxLen at this; omega) hb
  refine Ev.bind hz ?_
  by_cases hh : z < 0
  · simp only [if_pos hh]; exact Ev.now _
  obtain ⟨hm2, hl, hs⟩ := hz2.resolve_left hh
  have hml : (l.map toT).length ≤ 1048576 := by simpa using hl
  have hms : ∀ x ∈ l.map toT, x.f0.size ≤ 1048576 ∧ x.f1.size ≤ 1048576 := by
    intro x hx
    obtain ⟨y, hy, rfl⟩ := List.mem_map.1 hx
    exact hs y hy
  simp only [if_neg hh]
  have ht := toKey_ev m l s hl
  have e1 := spec_KeyBytes_ev m (l.map toT) s hm2 hml hms
  have e2 := impl_KeyBytes_ev m (l.map toT) s hm2 hml hms
  have hrl := keyBytesR_len m (l.map toT) s
  generalize keyBytesR m (l.map toT) s = r at e1 e2 hrl
  have eq := eqByteS_same r.1 r.1 (by omega) rfl
  have hd := heldByteS_ev 1 r.1.length (by omega) (by omega) (by omega)
  obtain ⟨q, hq, hq0⟩ := markKey_ev m (l.map toT) s hml
  refine Ev.bind ht (Ev.bind e1 (Ev.bind ht (Ev.bind e2 (Ev.bind eq (Ev.bind ht (Ev.bind (eqKey_same m _ s hml) (Ev.bind hq (Ev.bind eq ?_))))))))
  refine Ev.bind (markByteS_ev r.1 1 (by omega) (by omega) (by omega)) ?_
  refine Ev.bind hd (Ev.bind ht (Ev.bind e2 (Ev.bind eq (Ev.bind hd ?_))))
  rw [if_pos ⟨rfl, rfl, rfl, by omega, rfl, rfl, by omega, rfl, rfl, rfl, by omega, rfl⟩]
  exact Ev.now _
end Go.Proofs.YtodblpadklheaaaDoor.Pure
