/- The law FnExactCompareKeys answers true, for all keys. -/
import Derived.Test.YtohmoigiggmmnaaDoorPFnExactCompareKeysx7
set_option linter.unusedVariables false
set_option linter.unusedSimpArgs false
namespace Go.Proofs.YtohmoigiggmmnaaDoor.Pure
open Go.RowKit Go.Proofs.YtohmoigiggmmnaaDoor.PFnExactCompareKeys Go.Proofs.YtohmoigiggmmnaaDoorW Go.Proofs.YtohmoigiggmmnaaDoorW.PrintWords Go.Proofs.YtohmoigiggmmnaaDoorW.PrintLast Go.Proofs.YtohmoigiggmmnaaDoorW.PrintMore
/-! ### base: rounds, numbers -/
theorem Ev_succ {α : Type} {g : Nat → Option α} {r : α} (h : Ev (fun k => g (k + 1)) r) : Ev g r := Ev.step (fun _ => rfl) h
theorem Ev_some {α : Type} {o : Option α} {r : α} (h : o = some r) : Ev (fun _ => o) r := ⟨0, fun _ _ => h⟩
theorem Ev_cast {α : Type} {g : Nat → Option α} {r q : α} (h : Ev g r) (e : r = q) : Ev g q := e ▸ h
theorem w64 {n : Int} (h : -9223372036854775808 ≤ n) (h' : n ≤ 9223372036854775807) : wrap64 n = n := by unfold wrap64; omega
theorem wf_i64 {n : Int} (h : (Lit.int .i64 n).wf = true) : -9223372036854775808 ≤ n ∧ n ≤ 9223372036854775807 := by
  simp only [Lit.wf, IntKind.min, IntKind.max, IntKind.signed, IntKind.bits, Bool.and_eq_true, decide_eq_true_eq, if_true] at h
  omega
theorem wf_u64 {n : Int} (h : (Lit.int .u64 n).wf = true) : 0 ≤ n ∧ n ≤ 18446744073709551615 := by
  simp only [Lit.wf, IntKind.min, IntKind.max, IntKind.signed, IntKind.bits, Bool.and_eq_true, decide_eq_true_eq, if_true] at h
  simp at h
  omega
theorem wf_u8 {n : Int} (h : (Lit.int .u8 n).wf = true) : 0 ≤ n ∧ n ≤ 255 := by
  simp only [Lit.wf, IntKind.min, IntKind.max, IntKind.signed, IntKind.bits, Bool.and_eq_true, decide_eq_true_eq, if_true] at h
  simp at h
  omega
theorem wrap_u64 (n : Int) : IntKind.u64.wrap n = n % 18446744073709551616 := by simp [IntKind.wrap, IntKind.bits, IntKind.signed]
theorem wrap_u32 (n : Int) : IntKind.u32.wrap n = n % 4294967296 := by simp [IntKind.wrap, IntKind.bits, IntKind.signed]
/-- A list of bytes. -/
def Bytes (l : List Int) : Prop := ∀ x ∈ l, 0 ≤ x ∧ x ≤ 255
theorem Bytes.wf {l : List Int} (h : ∀ x ∈ l, (Lit.int .u8 x).wf = true) : Bytes l := fun x hx => wf_u8 (h x hx)
theorem Bytes.nil : Bytes [] := fun x hx => by cases hx
theorem Bytes.app {a b : List Int} (h : Bytes a) (k : Bytes b) : Bytes (a ++ b) := fun x hx => by
  rcases List.mem_append.1 hx with h' | h'
  · exact h x h'
  · exact k x h'
theorem Bytes.one {x : Int} (h : 0 ≤ x) (h' : x ≤ 255) : Bytes [x] := fun y hy => (List.mem_singleton.1 hy) ▸ ⟨h, h'⟩
theorem Bytes.sub {a b : List Int} (h : Bytes a) (k : ∀ x ∈ b, x ∈ a) : Bytes b := fun x hx => h x (k x hx)
theorem Bytes.take {a : List Int} (h : Bytes a) (n : Nat) : Bytes (a.take n) := h.sub fun _ hx => List.mem_of_mem_take hx
theorem Bytes.drop {a : List Int} (h : Bytes a) (n : Nat) : Bytes (a.drop n) := h.sub fun _ hx => List.mem_of_mem_drop hx
theorem rd_lt {l : List Int} {i : Nat} (h : i < l.length) : rd l (i : Int) = l[i] := by simp [rd, h]
theorem Bytes.rd {l : List Int} (h : Bytes l) (i : Int) : 0 ≤ rd l i ∧ rd l i ≤ 255 := by
  unfold PrintWords.rd
  by_cases hi : i.toNat < l.length
  · rw [List.getD_eq_getElem?_getD, List.getElem?_eq_getElem hi]; exact h _ (List.getElem_mem hi)
  · rw [List.getD_eq_getElem?_getD, List.getElem?_eq_none (by omega)]; simp
theorem drop_cons {α : Type} {l : List α} {i : Nat} (h : i < l.length) : l.drop i = l[i] :: l.drop (i + 1) := List.drop_eq_getElem_cons h
theorem within_eq (a b c : Int) : impl_within.f a b c = some (decide (b ≤ a ∧ a ≤ c)) := by
  unfold impl_within.f
  by_cases h : a ≥ b
  · rw [if_pos h]; simp; intro; omega
  · rw [if_neg h]; simp; intro; omega
theorem l1In_eq (a b c : Int) : spec_l1In.f a b c = some (decide (b ≤ a ∧ a ≤ c)) := by
  unfold spec_l1In.f
  by_cases h : a ≥ b
  · rw [if_pos h]; simp; intro; omega
  · rw [if_neg h]; simp; intro; omega
/-! ### names -/
def letterB (b : UInt8) : Bool := decide ((97 ≤ b.toNat ∧ b.toNat ≤ 122) ∨ (65 ≤ b.toNat ∧ b.toNat ≤ 90))
def isName (s : ByteArray) : Bool := decide (1 ≤ s.size ∧ s.size ≤ 12) && s.data.toList.all letterB
theorem data_len (s : ByteArray) : s.data.toList.length = s.size := by rw [Array.length_toList]; rfl
theorem bt_lt {s : ByteArray} {i : Nat} (h : i < s.data.toList.length) : bt s (i : Int) = ((s.data.toList[i]).toNat : Int) := by
  unfold bt
  have h2 : (i : Int).toNat < s.size := by rw [Int.toNat_natCast, ← data_len]; exact h
  rw [dif_pos h2]
  simp only [Int.toNat_natCast]
  rfl
theorem drop_while_all {α : Type} (p : α → Bool) : ∀ l : List α, (∀ x ∈ l.dropWhile p, p x = true) → ∀ x ∈ l, p x = true := by
  intro l
  induction l with
  | nil => intro _ x hx; cases hx
  | cons a t ih =>
    intro h x hx
    by_cases ha : p a = true
    · rw [List.dropWhile_cons_of_pos ha] at h
      rcases List.mem_cons.1 hx with rfl | hx
      · exact ha
      · exact ih h x hx
    · rw [List.dropWhile_cons_of_neg ha] at h
      exact h x hx
theorem all_drop_while {α : Type} (p : α → Bool) : ∀ l : List α, (∀ x ∈ l, p x = true) → l.dropWhile p = [] := by
  intro l
  induction l with
  | nil => intro _; rfl
  | cons a t ih =>
    intro h
    rw [List.dropWhile_cons_of_pos (h a (List.mem_cons_self ..))]
    exact ih (fun x hx => h x (List.mem_cons_of_mem _ hx))
theorem trimS_nil (l cs : List UInt8) : (Lib.trimS l cs == []) = l.all (cs.contains ·) := by
  rw [Bool.eq_iff_iff, beq_iff_eq, List.all_eq_true]
  unfold Lib.trimS Lib.trimLeftS Lib.trimRightS
  constructor
  · intro h x hx
    have h1 : ∀ x ∈ (List.dropWhile (fun x => cs.contains x) l.reverse).reverse, cs.contains x = true :=
      drop_while_all _ _ (by rw [h]; intro x hx; cases hx)
    exact drop_while_all _ l.reverse (fun x hx => h1 x (List.mem_reverse.2 hx)) x (List.mem_reverse.2 hx)
  · intro h
    rw [all_drop_while _ l.reverse (fun x hx => h x (List.mem_reverse.1 hx))]
    rfl
def letterBytes : ByteArray := ⟨#[97, 98, 99, 100, 101, 102, 103, 104, 105, 106, 107, 108, 109, 110, 111, 112, 113, 114, 115, 116, 117, 118, 119, 120, 121, 122, 65, 66, 67, 68, 69, 70, 71, 72, 73, 74, 75, 76, 77, 78, 79, 80, 81, 82, 83, 84, 85, 86, 87, 88, 89, 90]⟩
theorem letter_all : ∀ n : Fin 256, letterBytes.data.toList.contains (UInt8.ofNat n.val) = letterB (UInt8.ofNat n.val) := by decide +kernel
theorem letter_eq (b : UInt8) : letterBytes.data.toList.contains b = letterB b := by
  have := letter_all ⟨b.toNat, b.toNat_lt⟩
  simpa using this
theorem trim_letters (s : ByteArray) (hs : s.size ≤ 9223372036854775807) : ∃ t, strings_Trim.f s letterBytes = some t ∧ (t.toList == ([] : List UInt8)) = s.data.toList.all letterB := by
  refine ⟨⟨(Lib.trimS s.data.toList letterBytes.data.toList).toArray⟩, ?_, ?_⟩
  · unfold strings_Trim.f
    rw [if_pos ⟨⟨hs, by decide +kernel⟩, by decide +kernel⟩]
  · rw [Lib.toList_data]
    show (Lib.trimS s.data.toList letterBytes.data.toList == []) = _
    rw [trimS_nil]
    congr 1
    funext b
    exact letter_eq b
theorem impl_isName_eq (s : ByteArray) (hs : s.size ≤ 9223372036854775807) : impl_isName.f s = some (isName s) := by
  unfold impl_isName.f isName
  rw [within_eq, Option.bind_some]
  by_cases h : 1 ≤ (s.size : Int) ∧ (s.size : Int) ≤ 12
  · rw [decide_eq_true h, if_pos rfl, decide_eq_true (show 1 ≤ s.size ∧ s.size ≤ 12 by omega), Bool.true_and]
    obtain ⟨t, h1, h2⟩ := trim_letters s hs
    rw [show (⟨#[97, 98, 99, 100, 101, 102, 103, 104, 105, 106, 107, 108, 109, 110, 111, 112, 113, 114, 115, 116, 117, 118, 119, 120, 121, 122, 65, 66, 67, 68, 69, 70, 71, 72, 73, 74, 75, 76, 77, 78, 79, 80, 81, 82, 83, 84, 85, 86, 87, 88, 89, 90]⟩ : ByteArray) = letterBytes from rfl, h1, Option.bind_some, h2]
  · rw [decide_eq_false h, if_neg (by decide), decide_eq_false (show ¬ (1 ≤ s.size ∧ s.size ≤ 12) by omega), Bool.false_and]
theorem spec_l1Name_ev (s : ByteArray) : Ev (fun k => spec_l1Name.f k s) (isName s) := by
  have loop : s.size ≤ 12 → ∀ d i : Nat, s.size - i = d → i ≤ s.size → Ev (fun k => spec_l1Name.l0 k s (i : Int)) ((s.data.toList.drop i).all letterB) := by
    intro hs d
    have hl := data_len s
    induction d with
    | zero =>
      intro i hd hi
      refine Ev_succ ?_
      simp only [spec_l1Name.l0]
      simp only [if_neg (show ¬ (i : Int) < (s.size : Int) by omega)]
      exact Ev_cast (Ev.now _) (by rw [List.drop_eq_nil_of_le (by omega)]; rfl)
    | succ d ih =>
      intro i hd hi
      have hlt : i < s.data.toList.length := by omega
      refine Ev_succ ?_
      simp only [spec_l1Name.l0]
      simp only [if_pos (show (i : Int) < (s.size : Int) by omega), if_pos (show 0 ≤ (i : Int) by omega)]
      rw [bt_lt hlt, w64 (by omega) (by omega)]
      rw [List.drop_eq_getElem_cons hlt, List.all_cons]
      have nxt := ih (i + 1) (by omega) (by omega)
      rw [show (((i + 1 : Nat)) : Int) = (i : Int) + 1 by simp] at nxt
      by_cases hb : letterB s.data.toList[i] = true
      · rw [hb, Bool.true_and]
        unfold letterB at hb
        replace hb := of_decide_eq_true hb
        by_cases h1 : ((s.data.toList[i]).toNat : Int) ≥ 97
        · simp only [if_pos h1]
          by_cases h2 : ((s.data.toList[i]).toNat : Int) ≤ 122
          · simp only [if_pos h2]; exact nxt
          · exfalso; omega
        · simp only [if_neg h1]
          simp only [if_pos (show ((s.data.toList[i]).toNat : Int) ≥ 65 by omega), if_pos (show ((s.data.toList[i]).toNat : Int) ≤ 90 by omega)]
          exact nxt
      · rw [Bool.eq_false_iff.mpr hb, Bool.false_and]
        unfold letterB at hb
        replace hb := fun h => hb (decide_eq_true h)
        by_cases h1 : ((s.data.toList[i]).toNat : Int) ≥ 97
        · simp only [if_pos h1, if_neg (show ¬ ((s.data.toList[i]).toNat : Int) ≤ 122 from fun h => hb (.inl ⟨by omega, by omega⟩)), if_pos (show ((s.data.toList[i]).toNat : Int) ≥ 65 by omega), if_neg (show ¬ ((s.data.toList[i]).toNat : Int) ≤ 90 by omega)]
          exact Ev.now _
        · simp only [if_neg h1]
          by_cases h3 : ((s.data.toList[i]).toNat : Int) ≥ 65
          · simp only [if_pos h3, if_neg (show ¬ ((s.data.toList[i]).toNat : Int) ≤ 90 from fun h => hb (.inr ⟨by omega, by omega⟩))]
            exact Ev.now _
          · simp only [if_neg h3]
            exact Ev.now _
  unfold spec_l1Name.f isName
  refine Ev.bind (Ev_some (l1In_eq _ _ _)) ?_
  by_cases h : 1 ≤ (s.size : Int) ∧ (s.size : Int) ≤ 12
  · rw [decide_eq_true h, decide_eq_true (show 1 ≤ s.size ∧ s.size ≤ 12 by omega), Bool.true_and]
    simp only [if_true]
    have := loop (by omega) s.size 0 (by omega) (by omega)
    rw [List.drop_zero] at this
    exact this
  · rw [decide_eq_false h, decide_eq_false (show ¬ (1 ≤ s.size ∧ s.size ≤ 12) by omega), Bool.false_and]
    simp only [Bool.false_eq_true, if_false]
    exact Ev.now _
/-! ### keys -/
theorem rd120_lt {l : List S120} {i : Nat} (h : i < l.length) : rd_T120 l (i : Int) = l[i] := by simp [rd_T120, h]
theorem rd79_lt {l : List S79} {i : Nat} (h : i < l.length) : rd_T79 l (i : Int) = l[i] := by simp [rd_T79, h]
def toT (x : S120) : S79 := ⟨x.f0, x.f1⟩
theorem szTag_eq (a b : ByteArray) (z : Int) (h0 : 0 ≤ z) (h1 : z ≤ 1048576) (ha : a.size ≤ 9223372036854775807) (hb : b.size ≤ 9223372036854775807) :
    ∃ q, laws_szTag.f a b z = some q ∧ (q < 0 ∨ (0 ≤ q ∧ q ≤ z ∧ a.size ≤ 1048576 ∧ b.size ≤ 1048576)) := by
  unfold laws_szTag.f
  rw [w64 (n := z - a.size) (by omega) (by omega)]
  by_cases c1 : z - (a.size : Int) < 0
  · exact ⟨-1, by rw [if_pos c1], .inl (by omega)⟩
  · rw [if_neg c1, w64 (n := z - a.size - b.size) (by omega) (by omega)]
    by_cases c2 : z - (a.size : Int) - b.size < 0
    · exact ⟨-1, by rw [if_pos c2], .inl (by omega)⟩
    · exact ⟨_, by rw [if_neg c2], .inr ⟨by omega, by omega, by omega, by omega⟩⟩
theorem szTagS_gen (l : List S120) (a0 : Int) (ha0 : 0 ≤ a0) (ha1 : a0 ≤ 1048576) (hl : l.length ≤ 9223372036854775807) (hs : ∀ x ∈ l, x.f0.size ≤ 9223372036854775807 ∧ x.f1.size ≤ 9223372036854775807) :
    ∃ z, Ev (fun k => laws_szTagS.f k l a0) z ∧ (z < 0 ∨ (0 ≤ z ∧ z ≤ 1048576 ∧ l.length ≤ 1048576 ∧ ∀ x ∈ l, x.f0.size ≤ 1048576 ∧ x.f1.size ≤ 1048576)) := by
  have loop : ∀ (d i : Nat) (a : Int), l.length - i = d → i ≤ l.length → l.length ≤ 1048576 → 0 ≤ a → a ≤ 1048576 → ∃ z, Ev (fun k => laws_szTagS.l0 k l a (i : Int)) z ∧ (z < 0 ∨ (0 ≤ z ∧ z ≤ a ∧ ∀ x ∈ l.drop i, x.f0.size ≤ 1048576 ∧ x.f1.size ≤ 1048576)) := by
    intro d
    induction d with
    | zero =>
      intro i a hd hi hl2 h0 h1
      refine ⟨a, Ev_succ ?_, .inr ⟨h0, Int.le_refl _, by rw [List.drop_eq_nil_of_le (by omega)]; intro s hs; cases hs⟩⟩
      simp only [laws_szTagS.l0]
      simp only [if_neg (show ¬ (i : Int) < (l.length : Int) by omega)]
      exact Ev.now _
    | succ d ih =>
      intro i a hd hi hl2 h0 h1
      have hx := hs (l[i]'(by omega)) (List.getElem_mem _)
      obtain ⟨z1, hz1, hz2⟩ := szTag_eq (l[i]'(by omega)).f0 (l[i]'(by omega)).f1 a h0 h1 hx.1 hx.2
      by_cases hn : z1 < 0
      · refine ⟨-1, Ev_succ ?_, .inl (by omega)⟩
        simp only [laws_szTagS.l0]
        simp only [if_pos (show (i : Int) < (l.length : Int) by omega), if_pos (show 0 ≤ (i : Int) by omega)]
        rw [rd120_lt (by omega)]
        refine Ev.bind (Ev_some hz1) ?_
        simp only [if_pos hn]
        exact Ev.now _
      · obtain ⟨g0, g1, g2, g3⟩ := hz2.resolve_left hn
        obtain ⟨z, hz, hz3⟩ := ih (i + 1) z1 (by omega) (by omega) hl2 g0 (by omega)
        refine ⟨z, Ev_succ ?_, ?_⟩
        · simp only [laws_szTagS.l0]
          simp only [if_pos (show (i : Int) < (l.length : Int) by omega), if_pos (show 0 ≤ (i : Int) by omega)]
          rw [rd120_lt (by omega), w64 (n := (i : Int) + 1) (by omega) (by omega)]
          refine Ev.bind (Ev_some hz1) ?_
          simp only [if_neg hn]
          exact hz
        · rcases hz3 with h | h
          · exact .inl h
          · refine .inr ⟨h.1, by omega, ?_⟩
            rw [List.drop_eq_getElem_cons (by omega)]
            intro x hx
            rcases List.mem_cons.1 hx with rfl | hx
            · exact ⟨g2, g3⟩
            · exact h.2.2 x hx
  unfold laws_szTagS.f
  rw [w64 (by omega) (by omega)]
  by_cases hn : a0 - l.length < 0
  · exact ⟨-1, by simp only [if_pos hn]; exact Ev.now _, .inl (by omega)⟩
  · simp only [if_neg hn]
    obtain ⟨z, hz, hz2⟩ := loop l.length 0 (a0 - l.length) (by omega) (by omega) (by omega) (by omega) (by omega)
    exact ⟨z, hz, hz2.imp id (fun h => ⟨h.1, by omega, by omega, by simpa using h.2.2⟩)⟩
theorem szKey_ev (m : ByteArray) (l : List S120) (s : Int) (hm : m.size ≤ 9223372036854775807) (hl : l.length ≤ 9223372036854775807) (hs : ∀ x ∈ l, x.f0.size ≤ 9223372036854775807 ∧ x.f1.size ≤ 9223372036854775807) :
    ∃ z, Ev (fun k => laws_szKey.f k m l s 1048576) z ∧ (z < 0 ∨ (m.size ≤ 1048576 ∧ l.length ≤ 1048576 ∧ ∀ x ∈ l, x.f0.size ≤ 1048576 ∧ x.f1.size ≤ 1048576)) := by
  unfold laws_szKey.f
  rw [w64 (by omega) (by omega)]
  by_cases c1 : (1048576 : Int) - m.size < 0
  · exact ⟨-1, by simp only [if_pos c1]; exact Ev.now _, .inl (by omega)⟩
  · simp only [if_neg c1]
    obtain ⟨z, hz, hz2⟩ := szTagS_gen l (1048576 - m.size) (by omega) (by omega) hl hs
    by_cases hn : z < 0
    · exact ⟨-1, Ev.bind hz (by simp only [if_pos hn]; exact Ev.now _), .inl (by omega)⟩
    · exact ⟨z, Ev.bind hz (by simp only [if_neg hn]; exact Ev.now _), hz2.imp id (fun h => ⟨by omega, h.2.2⟩)⟩
theorem toTagS_l0 (l : List S120) : ∀ (d i : Nat) (o : List S79), l.length - i = d → i ≤ l.length → l.length ≤ 1048576 → o.length = l.length → o.take i = (l.map toT).take i →
    Ev (fun k => laws_toTagS.l0 k l o (i : Int)) (l.map toT) := by
  intro d
  induction d with
  | zero =>
    intro i o hd hi hl ho ht
    refine Ev_succ ?_
    simp only [laws_toTagS.l0]
    simp only [if_neg (show ¬ (i : Int) < (l.length : Int) by omega)]
    exact Ev_cast (Ev.now _) (by rw [List.take_of_length_le (by omega), List.take_of_length_le (by simp; omega)] at ht; exact ht)
  | succ d ih =>
    intro i o hd hi hl ho ht
    refine Ev_succ ?_
    simp only [laws_toTagS.l0]
    simp only [if_pos (show (i : Int) < (l.length : Int) by omega), if_pos (show 0 ≤ (i : Int) by omega), if_pos (show (i : Int) < (o.length : Int) by omega)]
    rw [rd120_lt (by omega), w64 (by omega) (by omega)]
    refine Ev.bind (Ev_some (by unfold laws_toTag.f; rfl)) ?_
    refine ih (i + 1) _ (by omega) (by omega) hl (by simpa using ho) ?_
    apply List.ext_getElem?
    intro j
    rw [List.getElem?_take, List.getElem?_take]
    by_cases h1 : j < i
    · have := congrArg (fun x => x[j]?) ht
      simp only [List.getElem?_take, if_pos h1] at this
      rw [if_pos (by omega), if_pos (by omega), List.getElem?_set]
      simp only [Int.toNat_natCast]
      rw [if_neg (by omega), this]
    · by_cases h2 : j = i
      · subst h2
        rw [if_pos (by omega), if_pos (by omega), List.getElem?_set]
        simp only [Int.toNat_natCast, if_true]
        rw [if_pos (by omega)]
        simp [show j < l.length by omega, toT]
      · rw [if_neg (by omega), if_neg (by omega)]
theorem toKey_ev (m : ByteArray) (l : List S120) (s : Int) (hl : l.length ≤ 1048576) : Ev (fun k => laws_toKey.f k m l s) (m, l.map toT, s) := by
  unfold laws_toKey.f laws_toTagS.f
  simp only [if_pos (show 0 ≤ (l.length : Int) by omega), Int.toNat_natCast, if_pos (show l.length ≤ 8796093022208 by omega)]
  exact Ev.bind (toTagS_l0 l l.length 0 _ (by omega) (by omega) (by omega) (by simp) (by simp)) (Ev.now _)
theorem eqKey_same (m : ByteArray) (l : List S79) (s : Int) (hl : l.length ≤ 1048576) : Ev (fun k => laws_eqKey.f k m l s m l s) true := by
  have loop : ∀ (d i : Nat), l.length - i = d → i ≤ l.length → Ev (fun k => laws_eqTagS.l0 k l l (i : Int)) true := by
    intro d
    induction d with
    | zero =>
      intro i hd hi
      refine Ev_succ ?_
      simp only [laws_eqTagS.l0]
      simp only [if_neg (show ¬ (i : Int) < (l.length : Int) by omega)]
      exact Ev.now _
    | succ d ih =>
      intro i hd hi
      refine Ev_succ ?_
      simp only [laws_eqTagS.l0]
      simp only [if_pos (show (i : Int) < (l.length : Int) by omega), if_pos (show 0 ≤ (i : Int) by omega)]
      rw [w64 (by omega) (by omega)]
      refine Ev.bind (Ev_some (show laws_eqTag.f _ _ _ _ = some true by unfold laws_eqTag.f; simp)) ?_
      simp only [if_true]
      exact ih (i + 1) (by omega) (by omega)
  unfold laws_eqKey.f laws_eqTagS.f
  simp only [if_true]
  refine Ev.bind (loop l.length 0 (by omega) (by omega)) ?_
  simp only [if_true]
  exact Ev.now _
def tagOk (l : List S79) (i : Nat) : Bool := isName (rd_T79 l (i : Int)).f0 && isName (rd_T79 l (i : Int)).f1 && (decide (i = 0) || Op.bytesLess (rd_T79 l ((i : Int) - 1)).f0.toList (rd_T79 l (i : Int)).f0.toList)
def tagsFrom (l : List S79) : Nat → Nat → Bool
  | 0, _ => true
  | d + 1, i => tagOk l i && tagsFrom l d (i + 1)
def goodKey (m : ByteArray) (l : List S79) (s : Int) : Bool := isName m && decide (l.length ≤ 4) && decide (0 ≤ s ∧ s ≤ 1000000000) && tagsFrom l l.length 0
theorem spec_GoodKey_ev (m : ByteArray) (l : List S79) (s : Int) (hm : m.size ≤ 1048576) (hl : l.length ≤ 1048576) (hs : ∀ x ∈ l, x.f0.size ≤ 1048576 ∧ x.f1.size ≤ 1048576) : Ev (fun k => spec_GoodKey.f k m l s) (goodKey m l s) := by
  have loop : ∀ d i : Nat, l.length - i = d → i ≤ l.length → Ev (fun k => spec_GoodKey.l0 k l (l.length : Int) (i : Int) m l s) (tagsFrom l d i) := by
    intro d
    induction d with
    | zero =>
      intro i hd hi
      refine Ev_succ ?_
      simp only [spec_GoodKey.l0]
      simp only [if_neg (show ¬ (i : Int) < (l.length : Int) by omega)]
      exact Ev.now _
    | succ d ih =>
      intro i hd hi
      have hlt : i < l.length := by omega
      have hx := hs (l[i]) (List.getElem_mem _)
      rw [← rd79_lt hlt] at hx
      refine Ev_succ ?_
      have nxt := ih (i + 1) (by omega) (by omega)
      rw [show (((i + 1 : Nat)) : Int) = (i : Int) + 1 by simp] at nxt
      simp only [spec_GoodKey.l0]
      simp only [if_pos (show (i : Int) < (l.length : Int) by omega), if_pos (show 0 ≤ (i : Int) by omega)]
      rw [w64 (n := (i : Int) + 1) (by omega) (by omega)]
      refine Ev.bind (spec_l1Name_ev _) ?_
      by_cases h1 : isName (rd_T79 l (i : Int)).f0 = true
      · simp only [if_pos h1]
        refine Ev.bind (spec_l1Name_ev _) ?_
        by_cases h2 : isName (rd_T79 l (i : Int)).f1 = true
        · simp only [if_pos h2]
          by_cases h0 : (i : Int) > 0
          · simp only [if_pos h0]
            rw [w64 (n := (i : Int) - 1) (by omega) (by omega)]
            simp only [if_pos (show 0 ≤ (i : Int) - 1 by omega), if_pos (show (i : Int) - 1 < (l.length : Int) by omega)]
            by_cases h3 : Op.bytesLess (rd_T79 l ((i : Int) - 1)).f0.toList (rd_T79 l (i : Int)).f0.toList = true
            · simp only [if_pos h3]
              refine Ev_cast nxt ?_
              have : tagOk l i = true := by unfold tagOk; rw [h1, h2, h3, Bool.or_true]; rfl
              simp [tagsFrom, this]
            · simp only [if_neg h3]
              refine Ev_cast (Ev.now _) ?_
              have : tagOk l i = false := by unfold tagOk; rw [Bool.eq_false_iff.mpr h3, decide_eq_false (show ¬ i = 0 by omega), Bool.or_false, Bool.and_false]
              simp [tagsFrom, this]
          · simp only [if_neg h0]
            refine Ev_cast nxt ?_
            have : tagOk l i = true := by unfold tagOk; rw [h1, h2, decide_eq_true (show i = 0 by omega)]; rfl
            simp [tagsFrom, this]
        · simp only [if_neg h2]
          refine Ev_cast (Ev.now _) ?_
          have : tagOk l i = false := by unfold tagOk; rw [Bool.eq_false_iff.mpr h2, Bool.and_false, Bool.false_and]
          simp [tagsFrom, this]
      · simp only [if_neg h1]
        refine Ev_cast (Ev.now _) ?_
        have : tagOk l i = false := by unfold tagOk; rw [Bool.eq_false_iff.mpr h1, Bool.false_and, Bool.false_and]
        simp [tagsFrom, this]
  have bad : goodKey m l s = false → Ev (fun k => spec_GoodKey.j0 k true m l s) (goodKey m l s) := by
    intro h
    refine Ev_succ ?_
    simp only [spec_GoodKey.j0, if_true]
    exact Ev_cast (Ev.now _) h.symm
  unfold spec_GoodKey.f
  refine Ev.bind (spec_l1Name_ev _) ?_
  by_cases h1 : isName m = true
  · simp only [if_pos h1]
    by_cases h2 : (l.length : Int) > 4
    · simp only [if_pos h2]
      exact bad (by unfold goodKey; rw [decide_eq_false (show ¬ l.length ≤ 4 by omega), Bool.and_false, Bool.false_and, Bool.false_and])
    · simp only [if_neg h2]
      refine Ev.bind (Ev_some (l1In_eq _ _ _)) ?_
      by_cases h3 : 0 ≤ s ∧ s ≤ 1000000000
      · rw [decide_eq_true h3, Bool.not_true]
        refine Ev_succ ?_
        simp only [spec_GoodKey.j0, Bool.false_eq_true, if_false]
        refine Ev_cast (loop l.length 0 (by omega) (by omega)) ?_
        unfold goodKey
        rw [h1, decide_eq_true (show l.length ≤ 4 by omega), decide_eq_true h3, Bool.true_and, Bool.true_and, Bool.true_and]
      · rw [decide_eq_false h3, Bool.not_false]
        exact bad (by unfold goodKey; rw [decide_eq_false h3, Bool.and_false, Bool.false_and])
  · simp only [if_neg h1]
    exact bad (by unfold goodKey; rw [Bool.eq_false_iff.mpr h1, Bool.false_and, Bool.false_and, Bool.false_and])
theorem impl_GoodKey_ev (m : ByteArray) (l : List S79) (s : Int) (hm : m.size ≤ 1048576) (hl : l.length ≤ 1048576) (hs : ∀ x ∈ l, x.f0.size ≤ 1048576 ∧ x.f1.size ≤ 1048576) : Ev (fun k => impl_GoodKey.f k m l s) (goodKey m l s) := by
  have loop : ∀ d i : Nat, l.length - i = d → i ≤ l.length → Ev (fun k => impl_GoodKey.l0 k l (l.length : Int) (i : Int) m l s) (tagsFrom l d i) := by
    intro d
    induction d with
    | zero =>
      intro i hd hi
      refine Ev_succ ?_
      simp only [impl_GoodKey.l0]
      simp only [if_neg (show ¬ (i : Int) < (l.length : Int) by omega)]
      exact Ev.now _
    | succ d ih =>
      intro i hd hi
      have hlt : i < l.length := by omega
      have hx := hs (l[i]) (List.getElem_mem _)
      rw [← rd79_lt hlt] at hx
      refine Ev_succ ?_
      have nxt := ih (i + 1) (by omega) (by omega)
      rw [show (((i + 1 : Nat)) : Int) = (i : Int) + 1 by simp] at nxt
      simp only [impl_GoodKey.l0]
      simp only [if_pos (show (i : Int) < (l.length : Int) by omega), if_pos (show 0 ≤ (i : Int) by omega)]
      rw [w64 (n := (i : Int) + 1) (by omega) (by omega)]
      refine Ev.bind (Ev_some (impl_isName_eq _ (by omega))) ?_
      by_cases h1 : isName (rd_T79 l (i : Int)).f0 = true
      · simp only [if_pos h1]
        refine Ev.bind (Ev_some (impl_isName_eq _ (by omega))) ?_
        by_cases h2 : isName (rd_T79 l (i : Int)).f1 = true
        · simp only [if_pos h2]
          by_cases h0 : (i : Int) > 0
          · simp only [if_pos h0]
            rw [w64 (n := (i : Int) - 1) (by omega) (by omega)]
            simp only [if_pos (show 0 ≤ (i : Int) - 1 by omega), if_pos (show (i : Int) - 1 < (l.length : Int) by omega)]
            by_cases h3 : Op.bytesLess (rd_T79 l ((i : Int) - 1)).f0.toList (rd_T79 l (i : Int)).f0.toList = true
            · simp only [if_pos h3]
              refine Ev_cast nxt ?_
              have : tagOk l i = true := by unfold tagOk; rw [h1, h2, h3, Bool.or_true]; rfl
              simp [tagsFrom, this]
            · simp only [if_neg h3]
              refine Ev_cast (Ev.now _) ?_
              have : tagOk l i = false := by unfold tagOk; rw [Bool.eq_false_iff.mpr h3, decide_eq_false (show ¬ i = 0 by omega), Bool.or_false, Bool.and_false]
              simp [tagsFrom, this]
          · simp only [if_neg h0]
            refine Ev_cast nxt ?_
            have : tagOk l i = true := by unfold tagOk; rw [h1, h2, decide_eq_true (show i = 0 by omega)]; rfl
            simp [tagsFrom, this]
        · simp only [if_neg h2]
          refine Ev_cast (Ev.now _) ?_
          have : tagOk l i = false := by unfold tagOk; rw [Bool.eq_false_iff.mpr h2, Bool.and_false, Bool.false_and]
          simp [tagsFrom, this]
      · simp only [if_neg h1]
        refine Ev_cast (Ev.now _) ?_
        have : tagOk l i = false := by unfold tagOk; rw [Bool.eq_false_iff.mpr h1, Bool.false_and, Bool.false_and]
        simp [tagsFrom, this]
  have bad : goodKey m l s = false → Ev (fun k => impl_GoodKey.j0 k true m l s) (goodKey m l s) := by
    intro h
    refine Ev_succ ?_
    simp only [impl_GoodKey.j0, if_true]
    exact Ev_cast (Ev.now _) h.symm
  unfold impl_GoodKey.f
  refine Ev.bind (Ev_some (impl_isName_eq _ (by omega))) ?_
  by_cases h1 : isName m = true
  · simp only [if_pos h1]
    by_cases h2 : (l.length : Int) > 4
    · simp only [if_pos h2]
      exact bad (by unfold goodKey; rw [decide_eq_false (show ¬ l.length ≤ 4 by omega), Bool.and_false, Bool.false_and, Bool.false_and])
    · simp only [if_neg h2]
      refine Ev.bind (Ev_some (within_eq _ _ _)) ?_
      by_cases h3 : 0 ≤ s ∧ s ≤ 1000000000
      · rw [decide_eq_true h3, Bool.not_true]
        refine Ev_succ ?_
        simp only [impl_GoodKey.j0, Bool.false_eq_true, if_false]
        refine Ev_cast (loop l.length 0 (by omega) (by omega)) ?_
        unfold goodKey
        rw [h1, decide_eq_true (show l.length ≤ 4 by omega), decide_eq_true h3, Bool.true_and, Bool.true_and, Bool.true_and]
      · rw [decide_eq_false h3, Bool.not_false]
        exact bad (by unfold goodKey; rw [decide_eq_false h3, Bool.and_false, Bool.false_and])
  · simp only [if_neg h1]
    exact bad (by unfold goodKey; rw [Bool.eq_false_iff.mpr h1, Bool.false_and, Bool.false_and, Bool.false_and])
/-! ### the order of keys -/
theorem szKey_gen (m : ByteArray) (l : List S120) (s a : Int) (ha0 : 0 ≤ a) (ha1 : a ≤ 1048576) (hm : m.size ≤ 9223372036854775807) (hl : l.length ≤ 9223372036854775807) (hs : ∀ x ∈ l, x.f0.size ≤ 9223372036854775807 ∧ x.f1.size ≤ 9223372036854775807) :
    ∃ z, Ev (fun k => laws_szKey.f k m l s a) z ∧ (z < 0 ∨ (0 ≤ z ∧ z ≤ 1048576 ∧ m.size ≤ 1048576 ∧ l.length ≤ 1048576 ∧ ∀ x ∈ l, x.f0.size ≤ 1048576 ∧ x.f1.size ≤ 1048576)) := by
  unfold laws_szKey.f
  rw [w64 (by omega) (by omega)]
  by_cases c1 : a - (m.size : Int) < 0
  · exact ⟨-1, by simp only [if_pos c1]; exact Ev.now _, .inl (by omega)⟩
  · simp only [if_neg c1]
    obtain ⟨z, hz, hz2⟩ := szTagS_gen l (a - m.size) (by omega) (by omega) hl hs
    by_cases hn : z < 0
    · exact ⟨-1, Ev.bind hz (by simp only [if_pos hn]; exact Ev.now _), .inl (by omega)⟩
    · exact ⟨z, Ev.bind hz (by simp only [if_neg hn]; exact Ev.now _), hz2.imp id (fun h => ⟨h.1, h.2.1, by omega, h.2.2.1, h.2.2.2⟩)⟩
def sCmp (a b : List UInt8) : Int := if Op.bytesLess a b = true then -1 else if Op.bytesLess b a = true then 1 else 0
def iCmp (a b : Int) : Int := if a < b then -1 else if a > b then 1 else 0
def tagCmp (x y : S79) : Int := if sCmp x.f0.toList y.f0.toList = 0 then sCmp x.f1.toList y.f1.toList else sCmp x.f0.toList y.f0.toList
def tagsCmp (l m : List S79) : Nat → Nat → Int
  | 0, _ => if l.length < m.length then -1 else 0
  | d + 1, i => if i < m.length then (if tagCmp (rd_T79 l (i : Int)) (rd_T79 m (i : Int)) = 0 then tagsCmp l m d (i + 1) else tagCmp (rd_T79 l (i : Int)) (rd_T79 m (i : Int))) else 1
def keysCmp (a : ByteArray) (l : List S79) (s : Int) (b : ByteArray) (m : List S79) (t : Int) : Int :=
  if sCmp a.toList b.toList = 0 then (if tagsCmp l m l.length 0 = 0 then iCmp s t else tagsCmp l m l.length 0) else sCmp a.toList b.toList
def compareKeys (a : ByteArray) (l : List S79) (s : Int) (b : ByteArray) (m : List S79) (t : Int) : Int :=
  if goodKey a l s = true then (if goodKey b m t = true then keysCmp a l s b m t else 0) else 0
theorem goodKey_bounds {m : ByteArray} {l : List S79} {s : Int} (h : goodKey m l s = true) : l.length ≤ 4 ∧ 0 ≤ s ∧ s ≤ 1000000000 := by
  unfold goodKey at h
  simp only [Bool.and_eq_true, decide_eq_true_eq] at h
  omega
theorem cmpS_eq (a b : ByteArray) : cmp_Compare_string.f a b = some (sCmp a.toList b.toList) := by
  unfold sCmp cmp_Compare_string.f cmp_isNaN_string.f
  simp only [bne_self_eq_false, Option.bind_some, Bool.false_eq_true, if_false]
  split
  · rfl
  · split <;> rfl
theorem cmpI_eq (a b : Int) : cmp_Compare_int.f a b = some (iCmp a b) := by
  unfold iCmp cmp_Compare_int.f cmp_isNaN_int.f
  simp only [bne_self_eq_false, Option.bind_some, Bool.false_eq_true, if_false]
  split
  · rfl
  · split <;> rfl
theorem l1Text_eq (a b : ByteArray) : spec_l1Text.f a b = some (sCmp a.toList b.toList) := by
  unfold sCmp spec_l1Text.f
  split
  · rfl
  · split <;> rfl
def orOf : List Int → Int
  | [] => 0
  | a :: t => if a = 0 then orOf t else a
theorem cmpOr_ev (l : List Int) (hl : l.length ≤ 100) : Ev (fun k => cmp_Or_int.f k l) (orOf l) := by
  have loop : ∀ d i : Nat, l.length - i = d → i ≤ l.length → Ev (fun k => cmp_Or_int.l0 k 0 l (l.length : Int) (i : Int)) (orOf (l.drop i)) := by
    intro d
    induction d with
    | zero =>
      intro i hd hi
      refine Ev_succ ?_
      simp only [cmp_Or_int.l0]
      simp only [if_neg (show ¬ (i : Int) < (l.length : Int) by omega)]
      exact Ev_cast (Ev.now _) (by rw [List.drop_eq_nil_of_le (by omega)]; rfl)
    | succ d ih =>
      intro i hd hi
      have hlt : i < l.length := by omega
      refine Ev_succ ?_
      have nxt := ih (i + 1) (by omega) (by omega)
      rw [show (((i + 1 : Nat)) : Int) = (i : Int) + 1 by simp] at nxt
      simp only [cmp_Or_int.l0]
      simp only [if_pos (show (i : Int) < (l.length : Int) by omega), if_pos (show 0 ≤ (i : Int) by omega)]
      rw [rd_lt hlt, w64 (by omega) (by omega), List.drop_eq_getElem_cons hlt]
      by_cases h0 : l[i] = 0
      · simp only [if_pos h0]
        exact Ev_cast nxt (by simp [orOf, h0])
      · simp only [if_neg h0]
        exact Ev_cast (Ev.now _) (by simp [orOf, h0])
  unfold cmp_Or_int.f
  have := loop l.length 0 (by omega) (by omega)
  exact Ev_cast this (by simp)
theorem closure_ev (x y : S79) : Ev (fun k => impl_CompareKeys_1.f k x.f0 x.f1 y.f0 y.f1) (tagCmp x y) := by
  unfold impl_CompareKeys_1.f
  refine Ev.bind (Ev_some (cmpS_eq _ _)) ?_
  refine Ev.bind (Ev_some (cmpS_eq _ _)) ?_
  refine Ev.bind (cmpOr_ev _ (by simp)) ?_
  refine Ev_cast (Ev.now _) ?_
  unfold tagCmp
  simp only [orOf]
  split
  · split
    · rename_i h; exact h.symm
    · rfl
  · rfl
theorem impl_Tag_ev (l m : List S79) (hl : l.length ≤ 1000) : Ev (fun k => impl_Tag.f k l m ()) (tagsCmp l m l.length 0) := by
  have loop : ∀ d i : Nat, l.length - i = d → i ≤ l.length → Ev (fun k => impl_Tag.l0 k l m i) (tagsCmp l m d i) := by
    intro d
    induction d with
    | zero =>
      intro i hd hi
      refine Ev_succ ?_
      simp only [impl_Tag.l0, tagsCmp]
      simp only [if_neg (show ¬ i < l.length by omega)]
      split
      · exact Ev.now _
      · exact Ev.now _
    | succ d ih =>
      intro i hd hi
      refine Ev_succ ?_
      simp only [impl_Tag.l0, tagsCmp]
      simp only [if_pos (show i < l.length by omega)]
      by_cases h1 : i < m.length
      · simp only [if_pos h1]
        refine Ev.bind (closure_ev _ _) ?_
        by_cases hc : tagCmp (rd_T79 l (i : Int)) (rd_T79 m (i : Int)) = 0
        · simp only [if_pos hc]
          exact ih (i + 1) (by omega) (by omega)
        · simp only [if_neg hc]
          exact Ev.now _
      · simp only [if_neg h1]
        exact Ev.now _
  unfold impl_Tag.f
  simp only [if_pos (show l.length ≤ 4611686018427387904 by omega)]
  exact loop l.length 0 (by omega) (by omega)
theorem impl_CompareKeys_ev (a : ByteArray) (l : List S79) (s : Int) (b : ByteArray) (m : List S79) (t : Int) (ha : a.size ≤ 1048576) (hl : l.length ≤ 1048576) (hs : ∀ x ∈ l, x.f0.size ≤ 1048576 ∧ x.f1.size ≤ 1048576) (hb : b.size ≤ 1048576) (hm : m.length ≤ 1048576) (ht : ∀ x ∈ m, x.f0.size ≤ 1048576 ∧ x.f1.size ≤ 1048576) :
    Ev (fun k => impl_CompareKeys.f k a l s b m t) (compareKeys a l s b m t) := by
  have bad : compareKeys a l s b m t = 0 → Ev (fun k => impl_CompareKeys.j0 k true a l s b m t) (compareKeys a l s b m t) := by
    intro h
    refine Ev_succ ?_
    simp only [impl_CompareKeys.j0, if_true]
    exact Ev_cast (Ev.now _) h.symm
  unfold impl_CompareKeys.f
  refine Ev.bind (impl_GoodKey_ev a l s ha hl hs) ?_
  by_cases g1 : goodKey a l s = true
  · simp only [if_pos g1]
    refine Ev.bind (impl_GoodKey_ev b m t hb hm ht) ?_
    by_cases g2 : goodKey b m t = true
    · rw [g2, Bool.not_true]
      refine Ev_succ ?_
      simp only [impl_CompareKeys.j0, Bool.false_eq_true, if_false]
      have b1 := goodKey_bounds g1
      refine Ev.bind (impl_Tag_ev l m (by omega)) ?_
      refine Ev.bind (Ev_some (cmpS_eq _ _)) ?_
      refine Ev.bind (Ev_some (cmpI_eq _ _)) ?_
      refine Ev.bind (cmpOr_ev _ (by simp)) ?_
      refine Ev_cast (Ev.now _) ?_
      unfold compareKeys keysCmp
      rw [if_pos g1, if_pos g2]
      simp only [orOf]
      split
      · split
        · split
          · rename_i h; exact h.symm
          · rfl
        · rfl
      · rfl
    · rw [Bool.eq_false_iff.mpr g2, Bool.not_false]
      exact bad (by unfold compareKeys; rw [if_pos g1, if_neg g2])
  · simp only [if_neg g1]
    exact bad (by unfold compareKeys; rw [if_neg g1])
theorem spec_l1Compare_ev (a : ByteArray) (l : List S79) (s : Int) (b : ByteArray) (m : List S79) (t : Int) (hl : l.length ≤ 4) (hm : m.length ≤ 4) (hs : 0 ≤ s ∧ s ≤ 1000000000) (ht : 0 ≤ t ∧ t ≤ 1000000000) :
    Ev (fun k => spec_l1Compare.f k a l s b m t) (keysCmp a l s b m t) := by
  have j2 : ∀ x : Int, Ev (fun k => spec_l1Compare.j2 k x) (iCmp x 0) := by
    intro x
    refine Ev_succ ?_
    simp only [spec_l1Compare.j2]
    unfold iCmp
    split
    · exact Ev.now _
    · split
      · exact Ev.now _
      · exact Ev.now _
  have fin : ∀ i : Nat, Ev (fun k => spec_l1Compare.j1 k (i : Int) false a l s b m t) (if l.length < m.length then -1 else if m.length < l.length then 1 else iCmp s t) := by
    intro i
    refine Ev_succ ?_
    simp only [spec_l1Compare.j1, Bool.false_eq_true, if_false]
    rw [w64 (n := (l.length : Int) - (m.length : Int)) (by omega) (by omega), w64 (n := s - t) (by omega) (by omega)]
    by_cases h0 : (l.length : Int) - (m.length : Int) = 0
    · simp only [if_pos h0]
      refine Ev_cast (j2 _) ?_
      rw [if_neg (show ¬ l.length < m.length by omega), if_neg (show ¬ m.length < l.length by omega)]
      unfold iCmp
      by_cases c1 : s < t
      · rw [if_pos c1, if_pos (show s - t < 0 by omega)]
      · rw [if_neg c1, if_neg (show ¬ s - t < 0 by omega)]
        by_cases c2 : s > t
        · rw [if_pos c2, if_pos (show s - t > 0 by omega)]
        · rw [if_neg c2, if_neg (show ¬ s - t > 0 by omega)]
    · simp only [if_neg h0]
      refine Ev_cast (j2 _) ?_
      unfold iCmp
      by_cases c1 : l.length < m.length
      · rw [if_pos c1, if_pos (show (l.length : Int) - (m.length : Int) < 0 by omega)]
      · rw [if_neg c1, if_pos (show m.length < l.length by omega), if_neg (show ¬ (l.length : Int) - (m.length : Int) < 0 by omega), if_pos (show (l.length : Int) - (m.length : Int) > 0 by omega)]
  have loop : ∀ d i : Nat, l.length - i = d → i ≤ l.length → i ≤ m.length → Ev (fun k => spec_l1Compare.l0 k (i : Int) a l s b m t) (if tagsCmp l m d i = 0 then iCmp s t else tagsCmp l m d i) := by
    intro d
    induction d with
    | zero =>
      intro i hd hi hj
      refine Ev_succ ?_
      simp only [spec_l1Compare.l0]
      simp only [if_neg (show ¬ (i : Int) < (l.length : Int) by omega)]
      refine Ev_cast (fin i) ?_
      unfold tagsCmp
      by_cases c1 : l.length < m.length
      · simp [c1]
      · rw [if_neg c1, if_neg c1, if_neg (show ¬ m.length < l.length by omega)]; rfl
    | succ d ih =>
      intro i hd hi hj
      refine Ev_succ ?_
      simp only [spec_l1Compare.l0]
      simp only [if_pos (show (i : Int) < (l.length : Int) by omega)]
      by_cases h1 : i < m.length
      · rw [decide_eq_true (show (i : Int) < (m.length : Int) by omega)]
        refine Ev_succ ?_
        have nxt := ih (i + 1) (by omega) (by omega) (by omega)
        rw [show (((i + 1 : Nat)) : Int) = (i : Int) + 1 by simp] at nxt
        simp only [spec_l1Compare.j1, if_true]
        simp only [if_pos (show 0 ≤ (i : Int) by omega), if_pos (show (i : Int) < (l.length : Int) by omega), if_pos (show (i : Int) < (m.length : Int) by omega)]
        rw [w64 (n := (i : Int) + 1) (by omega) (by omega)]
        refine Ev.bind (Ev_some (l1Text_eq _ _)) ?_
        by_cases c1 : sCmp (rd_T79 l (i : Int)).f0.toList (rd_T79 m (i : Int)).f0.toList = 0
        · simp only [if_pos c1]
          refine Ev.bind (Ev_some (l1Text_eq _ _)) ?_
          have e : tagCmp (rd_T79 l (i : Int)) (rd_T79 m (i : Int)) = sCmp (rd_T79 l (i : Int)).f1.toList (rd_T79 m (i : Int)).f1.toList := by unfold tagCmp; rw [if_pos c1]
          by_cases c2 : sCmp (rd_T79 l (i : Int)).f1.toList (rd_T79 m (i : Int)).f1.toList = 0
          · simp only [if_pos c2]
            refine Ev_cast nxt ?_
            have e2 : tagsCmp l m (d + 1) i = tagsCmp l m d (i + 1) := by
              conv => lhs; unfold tagsCmp
              rw [if_pos h1, e, if_pos c2]
            rw [e2]
          · simp only [if_neg c2]
            refine Ev_cast (Ev.now _) ?_
            have e2 : tagsCmp l m (d + 1) i = sCmp (rd_T79 l (i : Int)).f1.toList (rd_T79 m (i : Int)).f1.toList := by
              conv => lhs; unfold tagsCmp
              rw [if_pos h1, e, if_neg c2]
            rw [e2, if_neg c2]
        · simp only [if_neg c1]
          refine Ev_cast (Ev.now _) ?_
          have e : tagCmp (rd_T79 l (i : Int)) (rd_T79 m (i : Int)) = sCmp (rd_T79 l (i : Int)).f0.toList (rd_T79 m (i : Int)).f0.toList := by unfold tagCmp; rw [if_neg c1]
          have e2 : tagsCmp l m (d + 1) i = sCmp (rd_T79 l (i : Int)).f0.toList (rd_T79 m (i : Int)).f0.toList := by
            conv => lhs; unfold tagsCmp
            rw [if_pos h1, e, if_neg c1]
          rw [e2, if_neg c1]
      · rw [decide_eq_false (show ¬ (i : Int) < (m.length : Int) by omega)]
        refine Ev_cast (fin i) ?_
        have e2 : tagsCmp l m (d + 1) i = 1 := by
          conv => lhs; unfold tagsCmp
          rw [if_neg h1]
        rw [e2, if_neg (show ¬ l.length < m.length by omega), if_pos (show m.length < l.length by omega)]
        rfl
  unfold spec_l1Compare.f keysCmp
  refine Ev.bind (Ev_some (l1Text_eq _ _)) ?_
  by_cases c1 : sCmp a.toList b.toList = 0
  · simp only [if_pos c1]
    exact loop l.length 0 (by omega) (by omega) (by omega)
  · simp only [if_neg c1]
    exact Ev.now _
theorem spec_CompareKeys_ev (a : ByteArray) (l : List S79) (s : Int) (b : ByteArray) (m : List S79) (t : Int) (ha : a.size ≤ 1048576) (hl : l.length ≤ 1048576) (hs : ∀ x ∈ l, x.f0.size ≤ 1048576 ∧ x.f1.size ≤ 1048576) (hb : b.size ≤ 1048576) (hm : m.length ≤ 1048576) (ht : ∀ x ∈ m, x.f0.size ≤ 1048576 ∧ x.f1.size ≤ 1048576) :
    Ev (fun k => spec_CompareKeys.f k a l s b m t) (compareKeys a l s b m t) := by
  unfold spec_CompareKeys.f compareKeys
  refine Ev.bind (spec_GoodKey_ev a l s ha hl hs) ?_
  by_cases g1 : goodKey a l s = true
  · simp only [if_pos g1]
    refine Ev.bind (spec_GoodKey_ev b m t hb hm ht) ?_
    by_cases g2 : goodKey b m t = true
    · simp only [if_pos g2]
      have b1 := goodKey_bounds g1
      have b2 := goodKey_bounds g2
      exact Ev.bind (spec_l1Compare_ev a l s b m t b1.1 b2.1 b1.2 b2.2) (Ev.now _)
    · simp only [if_neg g2]
      exact Ev.now _
  · simp only [if_neg g1]
    exact Ev.now _
theorem FnExactCompareKeys : laws_FnExactCompareKeys.Pure := by
  intro a l s b m t h0 h1 h2 h3 h4 h5
  have big : ∀ l : List S120, (∀ x ∈ l, G120 x) → ∀ x ∈ l, x.f0.size ≤ 9223372036854775807 ∧ x.f1.size ≤ 9223372036854775807 := by
    intro l h x hx
    have g := h x hx
    have g1 := g.1
    have g2 := g.2
    unfold maxLen at g1 g2
    omega
  have tos : ∀ l : List S120, (∀ x ∈ l, x.f0.size ≤ 1048576 ∧ x.f1.size ≤ 1048576) → ∀ x ∈ l.map toT, x.f0.size ≤ 1048576 ∧ x.f1.size ≤ 1048576 := by
    intro l hs x hx
    obtain ⟨y, hy, rfl⟩ := List.mem_map.1 hx
    exact hs y hy
  refine Ev.rounds ?_
  unfold laws_FnExactCompareKeys.f
  obtain ⟨z, hz, hz2⟩ := szKey_gen a l s 1048576 (by omega) (by omega) (by have := h0; unfold maxLen at this; omega) (by have := h1.1; unfold maxLen at this; omega) (big l h1.2)
  refine Ev.bind hz ?_
  by_cases hh : z < 0
  · simp only [if_pos hh]; exact Ev.now _
  obtain ⟨z0, z1, ha, hl, hs⟩ := hz2.resolve_left hh
  simp only [if_neg hh]
  obtain ⟨y, hy, hy2⟩ := szKey_gen b m t z z0 z1 (by have := h3; unfold maxLen at this; omega) (by have := h4.1; unfold maxLen at this; omega) (big m h4.2)
  refine Ev.bind hy ?_
  by_cases hh2 : y < 0
  · simp only [if_pos hh2]; exact Ev.now _
  obtain ⟨_, _, hb, hm, ht⟩ := hy2.resolve_left hh2
  simp only [if_neg hh2]
  have hll : (l.map toT).length ≤ 1048576 := by simpa using hl
  have hmm : (m.map toT).length ≤ 1048576 := by simpa using hm
  refine Ev.bind (toKey_ev a l s hl) ?_
  refine Ev.bind (toKey_ev b m t hm) ?_
  refine Ev.bind (spec_CompareKeys_ev a _ s b _ t ha hll (tos l hs) hb hmm (tos m ht)) ?_
  refine Ev.bind (toKey_ev a l s hl) ?_
  refine Ev.bind (toKey_ev b m t hm) ?_
  refine Ev.bind (impl_CompareKeys_ev a _ s b _ t ha hll (tos l hs) hb hmm (tos m ht)) ?_
  simp only [if_true]
  refine Ev.bind (toKey_ev a l s hl) ?_
  refine Ev.bind (eqKey_same a _ s hll) ?_
  simp only [if_true]
  refine Ev.bind (toKey_ev b m t hm) ?_
  refine Ev.bind (eqKey_same b _ t hmm) ?_
  simp only [if_true]
  exact Ev.now _
end Go.Proofs.YtohmoigiggmmnaaDoor.Pure
