/- The law FnExactUsedBytes answers true, for all files. -/
import Derived.Test.YtohmoigiggmmnaaDoorPFnExactUsedBytesx6
import Derived.Test.YtohmoigiggmmnaaDoorPFnExactUsedBytesx6
set_option linter.unusedVariables false
set_option linter.unusedSimpArgs false
namespace Go.Proofs.YtohmoigiggmmnaaDoor.Pure
open Go.RowKit Go.Proofs.YtohmoigiggmmnaaDoor.PFnExactUsedBytes Go.Proofs.YtohmoigiggmmnaaDoorW Go.Proofs.YtohmoigiggmmnaaDoorW.PrintWords Go.Proofs.YtohmoigiggmmnaaDoorW.PrintLast Go.Proofs.YtohmoigiggmmnaaDoorW.PrintMore
/-! ### base: rounds, numbers -/
theorem Ev_succ {α : Type} {g : Nat → Option α} {r : α} (h : Ev (fun k => g (k + 1)) r) : Ev g r := Ev.step (fun _ => rfl) h
theorem Ev_some {α : Type} {o : Option α} {r : α} (h : o = some r) : Ev (fun _ => o) r := ⟨0, fun _ _ => h⟩
theorem Ev_cast {α : Type} {g : Nat → Option α} {r q : α} (h : Ev g r) (e : r = q) : Ev g q := e ▸ h
theorem w64 {n : Int} (h : -9223372036854775808 ≤ n) (h' : n ≤ 9223372036854775807) : wrap64 n = n := by unfold wrap64; omega
theorem wf_i64 {n : Int} (h : (Lit.int .i64 n).wf = true) : -9223372036854775808 ≤ n ∧ n ≤ 9223372036854775807 := by
  simp only [Lit.wf, IntKind.min, IntKind.max, IntKind.signed, IntKind.bits, Bool.and_eq_true, decide_eq_true_eq, if_true] at h
  omega
theorem wf_u64 {n : Int} (h : (Lit.int .u64 n).wf = true) : 0 ≤ n ∧ n ≤ 18446744073709551615 := by
  simp only [Lit.wf, IntKind.min, IntKind.max, IntKind.signed, IntKind.bits, Bool.and_eq_true, decide_eq_true_eq, if_true] at h
  simp at h
  omega
theorem wf_u8 {n : Int} (h : (Lit.int .u8 n).wf = true) : 0 ≤ n ∧ n ≤ 255 := by
  simp only [Lit.wf, IntKind.min, IntKind.max, IntKind.signed, IntKind.bits, Bool.and_eq_true, decide_eq_true_eq, if_true] at h
  simp at h
  omega
theorem wrap_u64 (n : Int) : IntKind.u64.wrap n = n % 18446744073709551616 := by simp [IntKind.wrap, IntKind.bits, IntKind.signed]
theorem wrap_u32 (n : Int) : IntKind.u32.wrap n = n % 4294967296 := by simp [IntKind.wrap, IntKind.bits, IntKind.signed]
/-- A list of bytes. -/
def Bytes (l : List Int) : Prop := ∀ x ∈ l, 0 ≤ x ∧ x ≤ 255
theorem Bytes.wf {l : List Int} (h : ∀ x ∈ l, (Lit.int .u8 x).wf = true) : Bytes l := fun x hx => wf_u8 (h x hx)
theorem Bytes.nil : Bytes [] := fun x hx => by cases hx
theorem Bytes.app {a b : List Int} (h : Bytes a) (k : Bytes b) : Bytes (a ++ b) := fun x hx => by
  rcases List.mem_append.1 hx with h' | h'
  · exact h x h'
  · exact k x h'
theorem Bytes.one {x : Int} (h : 0 ≤ x) (h' : x ≤ 255) : Bytes [x] := fun y hy => (List.mem_singleton.1 hy) ▸ ⟨h, h'⟩
theorem Bytes.sub {a b : List Int} (h : Bytes a) (k : ∀ x ∈ b, x ∈ a) : Bytes b := fun x hx => h x (k x hx)
theorem Bytes.take {a : List Int} (h : Bytes a) (n : Nat) : Bytes (a.take n) := h.sub fun _ hx => List.mem_of_mem_take hx
theorem Bytes.drop {a : List Int} (h : Bytes a) (n : Nat) : Bytes (a.drop n) := h.sub fun _ hx => List.mem_of_mem_drop hx
theorem rd_lt {l : List Int} {i : Nat} (h : i < l.length) : rd l (i : Int) = l[i] := by simp [rd, h]
theorem Bytes.rd {l : List Int} (h : Bytes l) (i : Int) : 0 ≤ rd l i ∧ rd l i ≤ 255 := by
  unfold PrintWords.rd
  by_cases hi : i.toNat < l.length
  · rw [List.getD_eq_getElem?_getD, List.getElem?_eq_getElem hi]; exact h _ (List.getElem_mem hi)
  · rw [List.getD_eq_getElem?_getD, List.getElem?_eq_none (by omega)]; simp
theorem drop_cons {α : Type} {l : List α} {i : Nat} (h : i < l.length) : l.drop i = l[i] :: l.drop (i + 1) := List.drop_eq_getElem_cons h
/-! ### the laws' own words on bytes -/
theorem eqByteS_l0 (a b : List Int) (hl : a.length = b.length) (hb : a.length ≤ 4611686018427387904) :
    ∀ (d i : Nat), a.length - i = d → i ≤ a.length → Ev (fun k => laws_eqByteS.l0 k a b (i : Int)) (decide (a.drop i = b.drop i)) := by
  intro d
  induction d with
  | zero =>
    intro i hd hi
    refine Ev_succ ?_
    simp only [laws_eqByteS.l0]
    simp only [if_neg (show ¬ (i : Int) < (a.length : Int) by omega)]
    exact Ev_cast (Ev.now _) (by rw [List.drop_eq_nil_of_le (by omega), List.drop_eq_nil_of_le (by omega)]; simp)
  | succ d ih =>
    intro i hd hi
    refine Ev_succ ?_
    simp only [laws_eqByteS.l0]
    simp only [if_pos (show (i : Int) < (a.length : Int) by omega), if_pos (show 0 ≤ (i : Int) by omega), if_pos (show (i : Int) < (b.length : Int) by omega)]
    rw [rd_lt (by omega), rd_lt (by omega), w64 (by omega) (by omega), drop_cons (l := a) (by omega), drop_cons (l := b) (i := i) (by omega)]
    by_cases e : a[i]'(by omega) = b[i]'(by omega)
    · simp only [if_pos e]
      exact Ev_cast (ih (i + 1) (by omega) (by omega)) (decide_eq_decide.2 (by rw [List.cons.injEq]; exact ⟨fun h => ⟨e, h⟩, fun h => h.2⟩))
    · simp only [if_neg e]
      exact Ev_cast (Ev.now _) (Eq.symm (decide_eq_false (by rw [List.cons.injEq]; exact fun h => e h.1)))
theorem eqByteS_ev (a b : List Int) (ha : a.length ≤ 4611686018427387904) : Ev (fun k => laws_eqByteS.f k a b) (decide (a = b)) := by
  unfold laws_eqByteS.f
  by_cases h : a.length = b.length
  · simp only [if_pos (show (a.length : Int) = (b.length : Int) by omega)]
    exact eqByteS_l0 a b h ha a.length 0 (by omega) (by omega)
  · simp only [if_neg (show ¬ (a.length : Int) = (b.length : Int) by omega)]
    exact Ev_cast (Ev.now _) (by simp; intro e; exact h (by rw [e]))
theorem eqByteS_same (a b : List Int) (ha : a.length ≤ 4611686018427387904) (e : a = b) : Ev (fun k => laws_eqByteS.f k a b) true := Ev_cast (eqByteS_ev a b ha) (by simp [e])
theorem toByteS_l0 (l : List Int) : ∀ (d i : Nat) (o : List Int), l.length - i = d → i ≤ l.length → l.length ≤ 1152921504606846976 → o.length = l.length → o.take i = l.take i →
    Ev (fun k => laws_toByteS.l0 k l o (i : Int)) l := by
  intro d
  induction d with
  | zero =>
    intro i o hd hi hl ho ht
    refine Ev_succ ?_
    simp only [laws_toByteS.l0]
    simp only [if_neg (show ¬ (i : Int) < (l.length : Int) by omega)]
    exact Ev_cast (Ev.now _) (by rw [List.take_of_length_le (by omega), List.take_of_length_le (by omega)] at ht; exact ht)
  | succ d ih =>
    intro i o hd hi hl ho ht
    refine Ev_succ ?_
    simp only [laws_toByteS.l0]
    simp only [if_pos (show (i : Int) < (l.length : Int) by omega), if_pos (show 0 ≤ (i : Int) by omega), if_pos (show (i : Int) < (o.length : Int) by omega)]
    rw [rd_lt (by omega), w64 (by omega) (by omega)]
    refine ih (i + 1) _ (by omega) (by omega) hl (by simpa using ho) ?_
    apply List.ext_getElem?
    intro j
    rw [List.getElem?_take, List.getElem?_take]
    by_cases h1 : j < i
    · have := congrArg (fun x => x[j]?) ht
      simp only [List.getElem?_take, if_pos h1] at this
      rw [if_pos (by omega), if_pos (by omega), List.getElem?_set]
      simp only [Int.toNat_natCast]
      rw [if_neg (by omega), this]
    · by_cases h2 : j = i
      · subst h2
        rw [if_pos (by omega), if_pos (by omega)]
        simp [show j < l.length by omega, show j < o.length by omega]
      · rw [if_neg (by omega), if_neg (by omega)]
theorem toByteS_ev (l : List Int) (hl : l.length ≤ 281474976710656) : Ev (fun k => laws_toByteS.f k l) l := by
  unfold laws_toByteS.f
  simp only [if_pos (show 0 ≤ (l.length : Int) by omega), Int.toNat_natCast, if_pos hl]
  exact toByteS_l0 l l.length 0 _ (by omega) (by omega) (by omega) (by simp) (by simp)
theorem within_eq (a b c : Int) : impl_within.f a b c = some (decide (b ≤ a ∧ a ≤ c)) := by
  unfold impl_within.f
  by_cases h : a ≥ b
  · rw [if_pos h]; simp; intro; omega
  · rw [if_neg h]; simp; intro; omega
theorem l1In_eq (a b c : Int) : spec_l1In.f a b c = some (decide (b ≤ a ∧ a ≤ c)) := by
  unfold spec_l1In.f
  by_cases h : a ≥ b
  · rw [if_pos h]; simp; intro; omega
  · rw [if_neg h]; simp; intro; omega
/-! ### names of files -/
theorem data_len (s : ByteArray) : s.data.toList.length = s.size := by rw [Array.length_toList]; rfl
theorem bt_lt {s : ByteArray} {i : Nat} (h : i < s.data.toList.length) : bt s (i : Int) = ((s.data.toList[i]).toNat : Int) := by
  unfold bt
  have h2 : (i : Int).toNat < s.size := by rw [Int.toNat_natCast, ← data_len]; exact h
  rw [dif_pos h2]
  simp only [Int.toNat_natCast]
  rfl
theorem drop_while_all {α : Type} (p : α → Bool) : ∀ l : List α, (∀ x ∈ l.dropWhile p, p x = true) → ∀ x ∈ l, p x = true := by
  intro l
  induction l with
  | nil => intro _ x hx; cases hx
  | cons a t ih =>
    intro h x hx
    by_cases ha : p a = true
    · rw [List.dropWhile_cons_of_pos ha] at h
      rcases List.mem_cons.1 hx with rfl | hx
      · exact ha
      · exact ih h x hx
    · rw [List.dropWhile_cons_of_neg ha] at h
      exact h x hx
theorem all_drop_while {α : Type} (p : α → Bool) : ∀ l : List α, (∀ x ∈ l, p x = true) → l.dropWhile p = [] := by
  intro l
  induction l with
  | nil => intro _; rfl
  | cons a t ih =>
    intro h
    rw [List.dropWhile_cons_of_pos (h a (List.mem_cons_self ..))]
    exact ih (fun x hx => h x (List.mem_cons_of_mem _ hx))
theorem trimS_nil (l cs : List UInt8) : (Lib.trimS l cs == []) = l.all (cs.contains ·) := by
  rw [Bool.eq_iff_iff, beq_iff_eq, List.all_eq_true]
  unfold Lib.trimS Lib.trimLeftS Lib.trimRightS
  constructor
  · intro h x hx
    have h1 : ∀ x ∈ (List.dropWhile (fun x => cs.contains x) l.reverse).reverse, cs.contains x = true :=
      drop_while_all _ _ (by rw [h]; intro x hx; cases hx)
    exact drop_while_all _ l.reverse (fun x hx => h1 x (List.mem_reverse.2 hx)) x (List.mem_reverse.2 hx)
  · intro h
    rw [all_drop_while _ l.reverse (fun x hx => h x (List.mem_reverse.1 hx))]
    rfl
def fileB (b : UInt8) : Bool := decide ((97 ≤ b.toNat ∧ b.toNat ≤ 122) ∨ (48 ≤ b.toNat ∧ b.toNat ≤ 57) ∨ b.toNat = 45)
def isFile (s : ByteArray) : Bool := decide (1 ≤ s.size ∧ s.size ≤ 20) && s.data.toList.all fileB
def fileBytes : ByteArray := ⟨#[97, 98, 99, 100, 101, 102, 103, 104, 105, 106, 107, 108, 109, 110, 111, 112, 113, 114, 115, 116, 117, 118, 119, 120, 121, 122, 48, 49, 50, 51, 52, 53, 54, 55, 56, 57, 45]⟩
theorem file_all : ∀ n : Fin 256, fileBytes.data.toList.contains (UInt8.ofNat n.val) = fileB (UInt8.ofNat n.val) := by decide +kernel
theorem file_eq (b : UInt8) : fileBytes.data.toList.contains b = fileB b := by
  have := file_all ⟨b.toNat, b.toNat_lt⟩
  simpa using this
theorem trim_file (s : ByteArray) (hs : s.size ≤ 9223372036854775807) : ∃ t, strings_Trim.f s fileBytes = some t ∧ (t.toList == ([] : List UInt8)) = s.data.toList.all fileB := by
  refine ⟨⟨(Lib.trimS s.data.toList fileBytes.data.toList).toArray⟩, ?_, ?_⟩
  · unfold strings_Trim.f
    rw [if_pos ⟨⟨hs, by decide +kernel⟩, by decide +kernel⟩]
  · rw [Lib.toList_data]
    show (Lib.trimS s.data.toList fileBytes.data.toList == []) = _
    rw [trimS_nil]
    congr 1
    funext b
    exact file_eq b
theorem impl_isFileName_eq (s : ByteArray) (hs : s.size ≤ 9223372036854775807) : impl_isFileName.f s = some (isFile s) := by
  unfold impl_isFileName.f isFile
  rw [within_eq, Option.bind_some]
  by_cases h : 1 ≤ (s.size : Int) ∧ (s.size : Int) ≤ 20
  · rw [decide_eq_true h, if_pos rfl, decide_eq_true (show 1 ≤ s.size ∧ s.size ≤ 20 by omega), Bool.true_and]
    obtain ⟨t, h1, h2⟩ := trim_file s hs
    rw [show (⟨#[97, 98, 99, 100, 101, 102, 103, 104, 105, 106, 107, 108, 109, 110, 111, 112, 113, 114, 115, 116, 117, 118, 119, 120, 121, 122, 48, 49, 50, 51, 52, 53, 54, 55, 56, 57, 45]⟩ : ByteArray) = fileBytes from rfl, h1, Option.bind_some, h2]
  · rw [decide_eq_false h, if_neg (by decide), decide_eq_false (show ¬ (1 ≤ s.size ∧ s.size ≤ 20) by omega), Bool.false_and]
theorem spec_l2Name_ev (s : ByteArray) : Ev (fun k => spec_l2Name.f k s) (isFile s) := by
  have loop : s.size ≤ 20 → ∀ d i : Nat, s.size - i = d → i ≤ s.size → Ev (fun k => spec_l2Name.l0 k s (i : Int)) ((s.data.toList.drop i).all fileB) := by
    intro hs d
    have hl := data_len s
    induction d with
    | zero =>
      intro i hd hi
      refine Ev_succ ?_
      simp only [spec_l2Name.l0]
      simp only [if_neg (show ¬ (i : Int) < (s.size : Int) by omega)]
      exact Ev_cast (Ev.now _) (by rw [List.drop_eq_nil_of_le (by omega)]; rfl)
    | succ d ih =>
      intro i hd hi
      have hlt : i < s.data.toList.length := by omega
      refine Ev_succ ?_
      simp only [spec_l2Name.l0]
      simp only [if_pos (show (i : Int) < (s.size : Int) by omega), if_pos (show 0 ≤ (i : Int) by omega)]
      rw [bt_lt hlt, w64 (by omega) (by omega)]
      rw [List.drop_eq_getElem_cons hlt, List.all_cons]
      have nxt := ih (i + 1) (by omega) (by omega)
      rw [show (((i + 1 : Nat)) : Int) = (i : Int) + 1 by simp] at nxt
      obtain ⟨b, hb0⟩ : ∃ b, b = s.data.toList[i] := ⟨_, rfl⟩
      rw [← hb0]
      have pre : ∀ q : Bool, fileB b = q → Ev (fun k => spec_l2Name.l0 k s ((i : Int) + 1)) ((s.data.toList.drop (i + 1)).all fileB) → (q = true → Ev (fun k => spec_l2Name.l0 k s ((i : Int) + 1)) (fileB b && (s.data.toList.drop (i + 1)).all fileB)) := by
        intro q hq h ht
        exact Ev_cast h (by rw [hq, ht, Bool.true_and])
      have no : fileB b = false → Ev (fun _ => some false) (fileB b && (s.data.toList.drop (i + 1)).all fileB) := fun h => Ev_cast (Ev.now _) (by rw [h, Bool.false_and])
      have yes : fileB b = true → Ev (fun k => spec_l2Name.l0 k s ((i : Int) + 1)) (fileB b && (s.data.toList.drop (i + 1)).all fileB) := fun h => pre true h nxt rfl
      by_cases h1 : (b.toNat : Int) ≥ 97
      · simp only [if_pos h1]
        by_cases h2 : (b.toNat : Int) ≤ 122
        · simp only [if_pos h2]
          exact yes (decide_eq_true (.inl ⟨by omega, by omega⟩))
        · simp only [if_neg h2, if_pos (show (b.toNat : Int) ≥ 48 by omega), if_neg (show ¬ (b.toNat : Int) ≤ 57 by omega), if_neg (show ¬ (b.toNat : Int) = 45 by omega)]
          exact no (decide_eq_false (by omega))
      · simp only [if_neg h1]
        by_cases h3 : (b.toNat : Int) ≥ 48
        · simp only [if_pos h3]
          by_cases h4 : (b.toNat : Int) ≤ 57
          · simp only [if_pos h4]
            exact yes (decide_eq_true (by omega))
          · simp only [if_neg h4, if_neg (show ¬ (b.toNat : Int) = 45 by omega)]
            exact no (decide_eq_false (by omega))
        · simp only [if_neg h3]
          by_cases h5 : (b.toNat : Int) = 45
          · simp only [if_pos h5]
            exact yes (decide_eq_true (by omega))
          · simp only [if_neg h5]
            exact no (decide_eq_false (by omega))
  unfold spec_l2Name.f isFile
  refine Ev.bind (Ev_some (l1In_eq _ _ _)) ?_
  by_cases h : 1 ≤ (s.size : Int) ∧ (s.size : Int) ≤ 20
  · rw [decide_eq_true h, decide_eq_true (show 1 ≤ s.size ∧ s.size ≤ 20 by omega), Bool.true_and]
    simp only [if_true]
    have := loop (by omega) s.size 0 (by omega) (by omega)
    rw [List.drop_zero] at this
    exact this
  · rw [decide_eq_false h, decide_eq_false (show ¬ (1 ≤ s.size ∧ s.size ≤ 20) by omega), Bool.false_and]
    simp only [Bool.false_eq_true, if_false]
    exact Ev.now _
/-! ### files -/
theorem rd124_lt {l : List S124} {i : Nat} (h : i < l.length) : rd_T124 l (i : Int) = l[i] := by simp [rd_T124, h]
theorem rd84_lt {l : List S84} {i : Nat} (h : i < l.length) : rd_T84 l (i : Int) = l[i] := by simp [rd_T84, h]
theorem szB_eq (l : List Int) (a : Int) (h0 : 0 ≤ a) (h1 : a ≤ 1048576) (hl : l.length ≤ 9223372036854775807) : laws_szByteS.f l a = some (if a - l.length < 0 then -1 else a - l.length) := by
  unfold laws_szByteS.f
  rw [w64 (by omega) (by omega)]
  split <;> rfl
def toF (x : S124) : S84 := ⟨x.f0, x.f1, x.f2⟩
theorem szFile_eq (a : ByteArray) (b : List Int) (c z : Int) (h0 : 0 ≤ z) (h1 : z ≤ 1048576) (ha : a.size ≤ 9223372036854775807) (hb : b.length ≤ 9223372036854775807) :
    ∃ q, laws_szFile.f a b c z = some q ∧ (q < 0 ∨ (0 ≤ q ∧ q ≤ z ∧ a.size ≤ 1048576 ∧ b.length ≤ 1048576)) := by
  unfold laws_szFile.f
  rw [w64 (n := z - a.size) (by omega) (by omega)]
  by_cases c1 : z - (a.size : Int) < 0
  · exact ⟨-1, by rw [if_pos c1], .inl (by omega)⟩
  · rw [if_neg c1, szB_eq b _ (by omega) (by omega) hb, Option.bind_some]
    by_cases c2 : z - (a.size : Int) - b.length < 0
    · exact ⟨-1, by rw [if_pos c2]; rfl, .inl (by omega)⟩
    · exact ⟨z - (a.size : Int) - b.length, by rw [if_neg c2, if_neg c2], .inr ⟨by omega, by omega, by omega, by omega⟩⟩
theorem szFiles_ev (n : Int) (l : List S124) (hl : l.length ≤ 9223372036854775807) (hs : ∀ x ∈ l, x.f0.size ≤ 9223372036854775807 ∧ x.f1.length ≤ 9223372036854775807) :
    ∃ z, Ev (fun k => laws_szFiles.f k n l 1048576) z ∧ (z < 0 ∨ (l.length ≤ 1048576 ∧ ∀ x ∈ l, x.f0.size ≤ 1048576 ∧ x.f1.length ≤ 1048576)) := by
  have loop : ∀ (d i : Nat) (a : Int), l.length - i = d → i ≤ l.length → l.length ≤ 1048576 → 0 ≤ a → a ≤ 1048576 → ∃ z, Ev (fun k => laws_szFileS.l0 k l a (i : Int)) z ∧ (z < 0 ∨ (0 ≤ z ∧ z ≤ a ∧ ∀ x ∈ l.drop i, x.f0.size ≤ 1048576 ∧ x.f1.length ≤ 1048576)) := by
    intro d
    induction d with
    | zero =>
      intro i a hd hi hl2 h0 h1
      refine ⟨a, Ev_succ ?_, .inr ⟨h0, Int.le_refl _, by rw [List.drop_eq_nil_of_le (by omega)]; intro s hs; cases hs⟩⟩
      simp only [laws_szFileS.l0]
      simp only [if_neg (show ¬ (i : Int) < (l.length : Int) by omega)]
      exact Ev.now _
    | succ d ih =>
      intro i a hd hi hl2 h0 h1
      have hx := hs (l[i]'(by omega)) (List.getElem_mem _)
      obtain ⟨z1, hz1, hz2⟩ := szFile_eq (l[i]'(by omega)).f0 (l[i]'(by omega)).f1 (l[i]'(by omega)).f2 a h0 h1 hx.1 hx.2
      by_cases hn : z1 < 0
      · refine ⟨-1, Ev_succ ?_, .inl (by omega)⟩
        simp only [laws_szFileS.l0]
        simp only [if_pos (show (i : Int) < (l.length : Int) by omega), if_pos (show 0 ≤ (i : Int) by omega)]
        rw [rd124_lt (by omega)]
        refine Ev.bind (Ev_some hz1) ?_
        simp only [if_pos hn]
        exact Ev.now _
      · obtain ⟨g0, g1, g2, g3⟩ := hz2.resolve_left hn
        obtain ⟨z, hz, hz3⟩ := ih (i + 1) z1 (by omega) (by omega) hl2 g0 (by omega)
        refine ⟨z, Ev_succ ?_, ?_⟩
        · simp only [laws_szFileS.l0]
          simp only [if_pos (show (i : Int) < (l.length : Int) by omega), if_pos (show 0 ≤ (i : Int) by omega)]
          rw [rd124_lt (by omega), w64 (n := (i : Int) + 1) (by omega) (by omega)]
          refine Ev.bind (Ev_some hz1) ?_
          simp only [if_neg hn]
          exact hz
        · rcases hz3 with h | h
          · exact .inl h
          · refine .inr ⟨h.1, by omega, ?_⟩
            rw [List.drop_eq_getElem_cons (by omega)]
            intro x hx
            rcases List.mem_cons.1 hx with rfl | hx
            · exact ⟨g2, g3⟩
            · exact h.2.2 x hx
  have szs : ∃ z, Ev (fun k => laws_szFileS.f k l 1048576) z ∧ (z < 0 ∨ (l.length ≤ 1048576 ∧ ∀ x ∈ l, x.f0.size ≤ 1048576 ∧ x.f1.length ≤ 1048576)) := by
    unfold laws_szFileS.f
    rw [w64 (by omega) (by omega)]
    by_cases hn : (1048576 : Int) - l.length < 0
    · exact ⟨-1, by simp only [if_pos hn]; exact Ev.now _, .inl (by omega)⟩
    · simp only [if_neg hn]
      obtain ⟨z, hz, hz2⟩ := loop l.length 0 (1048576 - l.length) (by omega) (by omega) (by omega) (by omega) (by omega)
      exact ⟨z, hz, hz2.imp id (fun h => ⟨by omega, by simpa using h.2.2⟩)⟩
  obtain ⟨z, hz, hz2⟩ := szs
  unfold laws_szFiles.f
  by_cases hn : z < 0
  · exact ⟨-1, Ev.bind hz (by simp only [if_pos hn]; exact Ev.now _), .inl (by omega)⟩
  · exact ⟨z, Ev.bind hz (by simp only [if_neg hn]; exact Ev.now _), hz2⟩
theorem toFileS_l0 (l : List S124) (hs : ∀ x ∈ l, x.f1.length ≤ 1048576) : ∀ (d i : Nat) (o : List S84), l.length - i = d → i ≤ l.length → l.length ≤ 1048576 → o.length = l.length → o.take i = (l.map toF).take i →
    Ev (fun k => laws_toFileS.l0 k l o (i : Int)) (l.map toF) := by
  intro d
  induction d with
  | zero =>
    intro i o hd hi hl ho ht
    refine Ev_succ ?_
    simp only [laws_toFileS.l0]
    simp only [if_neg (show ¬ (i : Int) < (l.length : Int) by omega)]
    exact Ev_cast (Ev.now _) (by rw [List.take_of_length_le (by omega), List.take_of_length_le (by simp; omega)] at ht; exact ht)
  | succ d ih =>
    intro i o hd hi hl ho ht
    refine Ev_succ ?_
    have hx := hs (l[i]'(by omega)) (List.getElem_mem _)
    simp only [laws_toFileS.l0]
    simp only [if_pos (show (i : Int) < (l.length : Int) by omega), if_pos (show 0 ≤ (i : Int) by omega), if_pos (show (i : Int) < (o.length : Int) by omega)]
    rw [rd124_lt (by omega), w64 (by omega) (by omega)]
    refine Ev.bind (a := ((l[i]'(by omega)).f0, (l[i]'(by omega)).f1, (l[i]'(by omega)).f2)) (by unfold laws_toFile.f; exact Ev.bind (toByteS_ev _ (by omega)) (Ev.now _)) ?_
    refine ih (i + 1) _ (by omega) (by omega) hl (by simpa using ho) ?_
    apply List.ext_getElem?
    intro j
    rw [List.getElem?_take, List.getElem?_take]
    by_cases h1 : j < i
    · have := congrArg (fun x => x[j]?) ht
      simp only [List.getElem?_take, if_pos h1] at this
      rw [if_pos (by omega), if_pos (by omega), List.getElem?_set]
      simp only [Int.toNat_natCast]
      rw [if_neg (by omega), this]
    · by_cases h2 : j = i
      · subst h2
        rw [if_pos (by omega), if_pos (by omega), List.getElem?_set]
        simp only [Int.toNat_natCast, if_true]
        rw [if_pos (by omega)]
        simp [show j < l.length by omega, toF]
      · rw [if_neg (by omega), if_neg (by omega)]
theorem toFiles_ev (n : Int) (l : List S124) (hl : l.length ≤ 1048576) (hs : ∀ x ∈ l, x.f1.length ≤ 1048576) : Ev (fun k => laws_toFiles.f k n l) (n, l.map toF) := by
  unfold laws_toFiles.f laws_toFileS.f
  simp only [if_pos (show 0 ≤ (l.length : Int) by omega), Int.toNat_natCast, if_pos (show l.length ≤ 5864062014805 by omega)]
  exact Ev.bind (toFileS_l0 l hs l.length 0 _ (by omega) (by omega) (by omega) (by simp) (by simp)) (Ev.now _)
theorem eqFiles_same (n : Int) (l : List S84) (hl : l.length ≤ 1048576) (hs : ∀ x ∈ l, x.f1.length ≤ 1048576) : Ev (fun k => laws_eqFiles.f k n l n l) true := by
  have loop : ∀ (d i : Nat), l.length - i = d → i ≤ l.length → Ev (fun k => laws_eqFileS.l0 k l l (i : Int)) true := by
    intro d
    induction d with
    | zero =>
      intro i hd hi
      refine Ev_succ ?_
      simp only [laws_eqFileS.l0]
      simp only [if_neg (show ¬ (i : Int) < (l.length : Int) by omega)]
      exact Ev.now _
    | succ d ih =>
      intro i hd hi
      refine Ev_succ ?_
      have hx := hs (l[i]'(by omega)) (List.getElem_mem _)
      simp only [laws_eqFileS.l0]
      simp only [if_pos (show (i : Int) < (l.length : Int) by omega), if_pos (show 0 ≤ (i : Int) by omega)]
      rw [rd84_lt (by omega), w64 (by omega) (by omega)]
      refine Ev.bind (a := true) ?_ ?_
      · unfold laws_eqFile.f
        simp only [if_true]
        refine Ev.bind (eqByteS_same _ _ (by omega) rfl) ?_
        simp only [if_true]
        exact Ev.now _
      · simp only [if_true]
        exact ih (i + 1) (by omega) (by omega)
  unfold laws_eqFiles.f laws_eqFileS.f
  simp only [if_true]
  refine Ev.bind (loop l.length 0 (by omega) (by omega)) ?_
  simp only [if_true]
  exact Ev.now _
def usedOf (l : List S84) : Nat := (l.map (fun x => x.f1.length)).sum
theorem usedOf_le (l : List S84) (hs : ∀ x ∈ l, x.f1.length ≤ 1048576) : usedOf l ≤ l.length * 1048576 := by
  induction l with
  | nil => simp [usedOf]
  | cons a t ih =>
    have h1 := hs a (List.mem_cons_self ..)
    have h2 := ih (fun x hx => hs x (List.mem_cons_of_mem _ hx))
    unfold usedOf at h2 ⊢
    rw [List.map_cons, List.sum_cons, List.length_cons]
    omega
def fileOk (l : List S84) (i : Nat) : Bool := isFile (rd_T84 l (i : Int)).f0 && decide (0 ≤ (rd_T84 l (i : Int)).f2 ∧ (rd_T84 l (i : Int)).f2 ≤ ((rd_T84 l (i : Int)).f1.length : Int)) && (decide (i = 0) || Op.bytesLess (rd_T84 l ((i : Int) - 1)).f0.toList (rd_T84 l (i : Int)).f0.toList)
def filesFrom (l : List S84) : Nat → Nat → Bool
  | 0, _ => true
  | d + 1, i => fileOk l i && filesFrom l d (i + 1)
def goodFiles (n : Int) (l : List S84) : Bool := decide (0 ≤ n ∧ n ≤ 60000) && decide (l.length ≤ 40) && decide ((usedOf l : Int) ≤ n) && filesFrom l l.length 0
def usedBytes (n : Int) (l : List S84) : Int × Bool := if goodFiles n l = true then ((usedOf l : Int), true) else (0, false)
theorem spec_l2Used_ev (n : Int) (l : List S84) (hl : l.length ≤ 1048576) (hs : ∀ x ∈ l, x.f1.length ≤ 1048576) : Ev (fun k => spec_l2Used.f k n l) ((usedOf l : Nat) : Int) := by
  have loop : ∀ d i : Nat, l.length - i = d → i ≤ l.length → ∀ a : Nat, a ≤ i * 1048576 → Ev (fun k => spec_l2Used.l0 k (a : Int) l (l.length : Int) (i : Int)) (((a + usedOf (l.drop i) : Nat)) : Int) := by
    intro d
    induction d with
    | zero =>
      intro i hd hi a ha
      refine Ev_succ ?_
      simp only [spec_l2Used.l0]
      simp only [if_neg (show ¬ (i : Int) < (l.length : Int) by omega)]
      exact Ev_cast (Ev.now _) (by rw [List.drop_eq_nil_of_le (by omega)]; simp [usedOf])
    | succ d ih =>
      intro i hd hi a ha
      have hlt : i < l.length := by omega
      have hx := hs (l[i]) (List.getElem_mem _)
      refine Ev_succ ?_
      simp only [spec_l2Used.l0]
      simp only [if_pos (show (i : Int) < (l.length : Int) by omega), if_pos (show 0 ≤ (i : Int) by omega)]
      rw [rd84_lt hlt, w64 (n := (i : Int) + 1) (by omega) (by omega), w64 (n := (a : Int) + _) (by omega) (by omega)]
      have := ih (i + 1) (by omega) (by omega) (a + l[i].f1.length) (by omega)
      rw [show (((i + 1 : Nat)) : Int) = (i : Int) + 1 by simp, show (((a + l[i].f1.length : Nat)) : Int) = (a : Int) + (l[i].f1.length : Int) by simp] at this
      refine Ev_cast this ?_
      rw [List.drop_eq_getElem_cons hlt]
      unfold usedOf
      rw [List.map_cons, List.sum_cons]
      omega
  unfold spec_l2Used.f
  have := loop l.length 0 (by omega) (by omega) 0 (by omega)
  refine Ev_cast this ?_
  simp
theorem impl_Files_used_ev (n : Int) (l : List S84) (hl : l.length ≤ 1048576) (hs : ∀ x ∈ l, x.f1.length ≤ 1048576) : Ev (fun k => impl_Files_used.f k n l) ((usedOf l : Nat) : Int) := by
  have loop : ∀ d i : Nat, l.length - i = d → i ≤ l.length → ∀ a : Nat, a ≤ i * 1048576 → Ev (fun k => impl_Files_used.l0 k (a : Int) l (l.length : Int) (i : Int)) (((a + usedOf (l.drop i) : Nat)) : Int) := by
    intro d
    induction d with
    | zero =>
      intro i hd hi a ha
      refine Ev_succ ?_
      simp only [impl_Files_used.l0]
      simp only [if_neg (show ¬ (i : Int) < (l.length : Int) by omega)]
      exact Ev_cast (Ev.now _) (by rw [List.drop_eq_nil_of_le (by omega)]; simp [usedOf])
    | succ d ih =>
      intro i hd hi a ha
      have hlt : i < l.length := by omega
      have hx := hs (l[i]) (List.getElem_mem _)
      refine Ev_succ ?_
      simp only [impl_Files_used.l0]
      simp only [if_pos (show (i : Int) < (l.length : Int) by omega), if_pos (show 0 ≤ (i : Int) by omega)]
      rw [rd84_lt hlt, w64 (n := (i : Int) + 1) (by omega) (by omega), w64 (n := (a : Int) + _) (by omega) (by omega)]
      have := ih (i + 1) (by omega) (by omega) (a + l[i].f1.length) (by omega)
      rw [show (((i + 1 : Nat)) : Int) = (i : Int) + 1 by simp, show (((a + l[i].f1.length : Nat)) : Int) = (a : Int) + (l[i].f1.length : Int) by simp] at this
      refine Ev_cast this ?_
      rw [List.drop_eq_getElem_cons hlt]
      unfold usedOf
      rw [List.map_cons, List.sum_cons]
      omega
  unfold impl_Files_used.f
  have := loop l.length 0 (by omega) (by omega) 0 (by omega)
  refine Ev_cast this ?_
  simp
theorem spec_GoodFiles_ev (n : Int) (l : List S84) (hl : l.length ≤ 1048576) (hs : ∀ x ∈ l, x.f0.size ≤ 1048576 ∧ x.f1.length ≤ 1048576) : Ev (fun k => spec_GoodFiles.f k n l) (goodFiles n l) := by
  have loop : ∀ d i : Nat, l.length - i = d → i ≤ l.length → Ev (fun k => spec_GoodFiles.l0 k l (l.length : Int) (i : Int) n l) (filesFrom l d i && decide ((usedOf l : Int) ≤ n)) := by
    intro d
    induction d with
    | zero =>
      intro i hd hi
      refine Ev_succ ?_
      simp only [spec_GoodFiles.l0]
      simp only [if_neg (show ¬ (i : Int) < (l.length : Int) by omega)]
      exact Ev.bind (spec_l2Used_ev n l hl (fun x hx => (hs x hx).2)) (Ev_cast (Ev.now _) (by simp [filesFrom]))
    | succ d ih =>
      intro i hd hi
      have hlt : i < l.length := by omega
      refine Ev_succ ?_
      have nxt := ih (i + 1) (by omega) (by omega)
      rw [show (((i + 1 : Nat)) : Int) = (i : Int) + 1 by simp] at nxt
      simp only [spec_GoodFiles.l0]
      simp only [if_pos (show (i : Int) < (l.length : Int) by omega), if_pos (show 0 ≤ (i : Int) by omega)]
      rw [w64 (n := (i : Int) + 1) (by omega) (by omega)]
      have yes : fileOk l i = true → Ev (fun k => spec_GoodFiles.l0 k l (l.length : Int) ((i : Int) + 1) n l) (filesFrom l (d + 1) i && decide ((usedOf l : Int) ≤ n)) := fun h => Ev_cast nxt (by simp [filesFrom, h])
      have no : fileOk l i = false → Ev (fun _ => some false) (filesFrom l (d + 1) i && decide ((usedOf l : Int) ≤ n)) := fun h => Ev_cast (Ev.now _) (by simp [filesFrom, h])
      refine Ev.bind (spec_l2Name_ev _) ?_
      by_cases h1 : isFile (rd_T84 l (i : Int)).f0 = true
      · simp only [if_pos h1]
        by_cases h0 : (i : Int) > 0
        · simp only [if_pos h0]
          rw [w64 (n := (i : Int) - 1) (by omega) (by omega)]
          simp only [if_pos (show 0 ≤ (i : Int) - 1 by omega), if_pos (show (i : Int) - 1 < (l.length : Int) by omega)]
          by_cases h3 : Op.bytesLess (rd_T84 l ((i : Int) - 1)).f0.toList (rd_T84 l (i : Int)).f0.toList = true
          · simp only [if_pos h3]
            refine Ev.bind (Ev_some (l1In_eq _ _ _)) ?_
            by_cases h2 : 0 ≤ (rd_T84 l (i : Int)).f2 ∧ (rd_T84 l (i : Int)).f2 ≤ ((rd_T84 l (i : Int)).f1.length : Int)
            · rw [decide_eq_true h2]
              simp only [if_true]
              exact yes (by unfold fileOk; rw [h1, decide_eq_true h2, h3, Bool.or_true]; rfl)
            · rw [decide_eq_false h2]
              simp only [Bool.false_eq_true, if_false]
              exact no (by unfold fileOk; rw [decide_eq_false h2, Bool.and_false, Bool.false_and])
          · simp only [if_neg h3]
            exact no (by unfold fileOk; rw [Bool.eq_false_iff.mpr h3, decide_eq_false (show ¬ i = 0 by omega), Bool.or_false, Bool.and_false])
        · simp only [if_neg h0]
          refine Ev.bind (Ev_some (l1In_eq _ _ _)) ?_
          by_cases h2 : 0 ≤ (rd_T84 l (i : Int)).f2 ∧ (rd_T84 l (i : Int)).f2 ≤ ((rd_T84 l (i : Int)).f1.length : Int)
          · rw [decide_eq_true h2]
            simp only [if_true]
            exact yes (by unfold fileOk; rw [h1, decide_eq_true h2, decide_eq_true (show i = 0 by omega)]; rfl)
          · rw [decide_eq_false h2]
            simp only [Bool.false_eq_true, if_false]
            exact no (by unfold fileOk; rw [decide_eq_false h2, Bool.and_false, Bool.false_and])
      · simp only [if_neg h1]
        exact no (by unfold fileOk; rw [Bool.eq_false_iff.mpr h1, Bool.false_and, Bool.false_and])
  have j0 : ∀ b : Bool, (b = true → goodFiles n l = false) → (b = false → goodFiles n l = (filesFrom l l.length 0 && decide ((usedOf l : Int) ≤ n))) → Ev (fun k => spec_GoodFiles.j0 k b n l) (goodFiles n l) := by
    intro b h1 h2
    refine Ev_succ ?_
    cases b with
    | true => simp only [spec_GoodFiles.j0, if_true]; exact Ev_cast (Ev.now _) (h1 rfl).symm
    | false =>
      simp only [spec_GoodFiles.j0, Bool.false_eq_true, if_false]
      exact Ev_cast (loop l.length 0 (by omega) (by omega)) (h2 rfl).symm
  unfold spec_GoodFiles.f
  refine Ev.bind (Ev_some (l1In_eq _ _ _)) ?_
  by_cases h1 : 0 ≤ n ∧ n ≤ 60000
  · rw [decide_eq_true h1]
    simp only [if_true]
    refine j0 _ ?_ ?_
    · intro h
      have := of_decide_eq_true h
      unfold goodFiles
      rw [decide_eq_false (show ¬ l.length ≤ 40 by omega), Bool.and_false, Bool.false_and, Bool.false_and]
    · intro h
      have := of_decide_eq_false h
      unfold goodFiles
      rw [decide_eq_true h1, decide_eq_true (show l.length ≤ 40 by omega), Bool.true_and, Bool.true_and, Bool.and_comm]
  · rw [decide_eq_false h1]
    simp only [Bool.false_eq_true, if_false]
    exact j0 _ (fun _ => by unfold goodFiles; rw [decide_eq_false h1, Bool.false_and, Bool.false_and, Bool.false_and]) (fun h => by cases h)
theorem impl_GoodFiles_ev (n : Int) (l : List S84) (hl : l.length ≤ 1048576) (hs : ∀ x ∈ l, x.f0.size ≤ 1048576 ∧ x.f1.length ≤ 1048576) : Ev (fun k => impl_GoodFiles.f k n l) (goodFiles n l) := by
  have loop : ∀ d i : Nat, l.length - i = d → i ≤ l.length → Ev (fun k => impl_GoodFiles.l0 k l (l.length : Int) (i : Int) n l) (filesFrom l d i) := by
    intro d
    induction d with
    | zero =>
      intro i hd hi
      refine Ev_succ ?_
      simp only [impl_GoodFiles.l0]
      simp only [if_neg (show ¬ (i : Int) < (l.length : Int) by omega)]
      exact Ev.now _
    | succ d ih =>
      intro i hd hi
      have hlt : i < l.length := by omega
      have hx := hs (l[i]) (List.getElem_mem _)
      rw [← rd84_lt hlt] at hx
      refine Ev_succ ?_
      have nxt := ih (i + 1) (by omega) (by omega)
      rw [show (((i + 1 : Nat)) : Int) = (i : Int) + 1 by simp] at nxt
      simp only [impl_GoodFiles.l0]
      simp only [if_pos (show (i : Int) < (l.length : Int) by omega), if_pos (show 0 ≤ (i : Int) by omega)]
      rw [w64 (n := (i : Int) + 1) (by omega) (by omega)]
      have yes : fileOk l i = true → Ev (fun k => impl_GoodFiles.l0 k l (l.length : Int) ((i : Int) + 1) n l) (filesFrom l (d + 1) i) := fun h => Ev_cast nxt (by simp [filesFrom, h])
      have no : fileOk l i = false → Ev (fun _ => some false) (filesFrom l (d + 1) i) := fun h => Ev_cast (Ev.now _) (by simp [filesFrom, h])
      refine Ev.bind (Ev_some (impl_isFileName_eq _ (by omega))) ?_
      by_cases h1 : isFile (rd_T84 l (i : Int)).f0 = true
      · simp only [if_pos h1]
        refine Ev.bind (Ev_some (within_eq _ _ _)) ?_
        by_cases h2 : 0 ≤ (rd_T84 l (i : Int)).f2 ∧ (rd_T84 l (i : Int)).f2 ≤ ((rd_T84 l (i : Int)).f1.length : Int)
        · rw [decide_eq_true h2]
          simp only [if_true]
          by_cases h0 : (i : Int) > 0
          · simp only [if_pos h0]
            rw [w64 (n := (i : Int) - 1) (by omega) (by omega)]
            simp only [if_pos (show 0 ≤ (i : Int) - 1 by omega), if_pos (show (i : Int) - 1 < (l.length : Int) by omega)]
            by_cases h3 : Op.bytesLess (rd_T84 l ((i : Int) - 1)).f0.toList (rd_T84 l (i : Int)).f0.toList = true
            · simp only [if_pos h3]
              exact yes (by unfold fileOk; rw [h1, decide_eq_true h2, h3, Bool.or_true]; rfl)
            · simp only [if_neg h3]
              exact no (by unfold fileOk; rw [Bool.eq_false_iff.mpr h3, decide_eq_false (show ¬ i = 0 by omega), Bool.or_false, Bool.and_false])
          · simp only [if_neg h0]
            exact yes (by unfold fileOk; rw [h1, decide_eq_true h2, decide_eq_true (show i = 0 by omega)]; rfl)
        · rw [decide_eq_false h2]
          simp only [Bool.false_eq_true, if_false]
          exact no (by unfold fileOk; rw [decide_eq_false h2, Bool.and_false, Bool.false_and])
      · simp only [if_neg h1]
        exact no (by unfold fileOk; rw [Bool.eq_false_iff.mpr h1, Bool.false_and, Bool.false_and])
  have j0 : ∀ b : Bool, (b = true → goodFiles n l = false) → (b = false → goodFiles n l = filesFrom l l.length 0) → Ev (fun k => impl_GoodFiles.j0 k b n l) (goodFiles n l) := by
    intro b h1 h2
    refine Ev_succ ?_
    cases b with
    | true => simp only [impl_GoodFiles.j0, if_true]; exact Ev_cast (Ev.now _) (h1 rfl).symm
    | false =>
      simp only [impl_GoodFiles.j0, Bool.false_eq_true, if_false]
      exact Ev_cast (loop l.length 0 (by omega) (by omega)) (h2 rfl).symm
  unfold impl_GoodFiles.f
  refine Ev.bind (Ev_some (within_eq _ _ _)) ?_
  by_cases h1 : 0 ≤ n ∧ n ≤ 60000
  · rw [decide_eq_true h1]
    simp only [if_true]
    by_cases h2 : (l.length : Int) > 40
    · simp only [if_pos h2]
      exact j0 _ (fun _ => by unfold goodFiles; rw [decide_eq_false (show ¬ l.length ≤ 40 by omega), Bool.and_false, Bool.false_and, Bool.false_and]) (fun h => by cases h)
    · simp only [if_neg h2]
      refine Ev.bind (impl_Files_used_ev n l hl (fun x hx => (hs x hx).2)) ?_
      refine j0 _ ?_ ?_
      · intro h
        have := of_decide_eq_true h
        unfold goodFiles
        rw [decide_eq_false (show ¬ (usedOf l : Int) ≤ n by omega), Bool.and_false, Bool.false_and]
      · intro h
        have := of_decide_eq_false h
        unfold goodFiles
        rw [decide_eq_true h1, decide_eq_true (show l.length ≤ 40 by omega), decide_eq_true (show (usedOf l : Int) ≤ n by omega), Bool.true_and, Bool.true_and, Bool.true_and]
  · rw [decide_eq_false h1]
    simp only [Bool.false_eq_true, if_false]
    exact j0 _ (fun _ => by unfold goodFiles; rw [decide_eq_false h1, Bool.false_and, Bool.false_and, Bool.false_and]) (fun h => by cases h)
theorem spec_UsedBytes_ev (n : Int) (l : List S84) (hl : l.length ≤ 1048576) (hs : ∀ x ∈ l, x.f0.size ≤ 1048576 ∧ x.f1.length ≤ 1048576) : Ev (fun k => spec_UsedBytes.f k n l) (usedBytes n l) := by
  unfold spec_UsedBytes.f usedBytes
  refine Ev.bind (spec_GoodFiles_ev n l hl hs) ?_
  by_cases h : goodFiles n l = true
  · simp only [if_pos h]
    exact Ev.bind (spec_l2Used_ev n l hl (fun x hx => (hs x hx).2)) (Ev.now _)
  · simp only [if_neg h]
    exact Ev.now _
theorem impl_UsedBytes_ev (n : Int) (l : List S84) (hl : l.length ≤ 1048576) (hs : ∀ x ∈ l, x.f0.size ≤ 1048576 ∧ x.f1.length ≤ 1048576) : Ev (fun k => impl_UsedBytes.f k n l) (usedBytes n l) := by
  unfold impl_UsedBytes.f usedBytes
  refine Ev.bind (impl_GoodFiles_ev n l hl hs) ?_
  by_cases h : goodFiles n l = true
  · simp only [if_pos h]
    exact Ev.bind (impl_Files_used_ev n l hl (fun x hx => (hs x hx).2)) (Ev.now _)
  · simp only [if_neg h]
    exact Ev.now _
theorem FnExactUsedBytes : laws_FnExactUsedBytes.Pure := by
  intro n l h0 h1
  have hb : ∀ x ∈ l, x.f0.size ≤ 9223372036854775807 ∧ x.f1.length ≤ 9223372036854775807 := by
    intro x hx
    have g := h1.2 x hx
    have g1 := g.1
    have g2 := g.2.1.1
    unfold maxLen at g1 g2
    omega
  refine Ev.rounds ?_
  unfold laws_FnExactUsedBytes.f
  obtain ⟨z, hz, hz2⟩ := szFiles_ev n l (by have := h1.1; unfold maxLen at this; omega) hb
  refine Ev.bind hz ?_
  by_cases hh : z < 0
  · simp only [if_pos hh]; exact Ev.now _
  obtain ⟨hl, hs⟩ := hz2.resolve_left hh
  have hml : (l.map toF).length ≤ 1048576 := by simpa using hl
  have hms : ∀ x ∈ l.map toF, x.f0.size ≤ 1048576 ∧ x.f1.length ≤ 1048576 := by
    intro x hx
    obtain ⟨y, hy, rfl⟩ := List.mem_map.1 hx
    exact hs y hy
  have hs1 : ∀ x ∈ l, x.f1.length ≤ 1048576 := fun x hx => (hs x hx).2
  simp only [if_neg hh]
  refine Ev.bind (toFiles_ev n l hl hs1) ?_
  refine Ev.bind (spec_UsedBytes_ev n _ hml hms) ?_
  refine Ev.bind (toFiles_ev n l hl hs1) ?_
  refine Ev.bind (impl_UsedBytes_ev n _ hml hms) ?_
  simp only [if_true, bne_self_eq_false]
  refine Ev_succ ?_
  simp only [laws_FnExactUsedBytes.j0, Bool.false_eq_true, if_false]
  refine Ev.bind (toFiles_ev n l hl hs1) ?_
  refine Ev.bind (eqFiles_same n _ hml (fun x hx => (hms x hx).2)) ?_
  simp only [if_true]
  exact Ev.now _
end Go.Proofs.YtohmoigiggmmnaaDoor.Pure
