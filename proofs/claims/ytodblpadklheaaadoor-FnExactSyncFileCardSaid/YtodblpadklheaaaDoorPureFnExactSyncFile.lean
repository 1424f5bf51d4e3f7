/- The law FnExactSyncFile answers true, for all files and names. -/
import Derived.Test.YtodblpadklheaaaDoorPFnExactSyncFilex10
set_option linter.unusedVariables false
set_option linter.unusedSimpArgs false
namespace Go.Proofs.YtodblpadklheaaaDoor.Pure
open Go.RowKit Go.Proofs.YtodblpadklheaaaDoor.PFnExactSyncFile Go.Proofs.YtodblpadklheaaaDoorW Go.Proofs.YtodblpadklheaaaDoorW.PrintWords Go.Proofs.YtodblpadklheaaaDoorW.PrintLast Go.Proofs.YtodblpadklheaaaDoorW.PrintMore
/-! ### base: rounds, numbers -/
theorem Ev_succ {α : Type} {g : Nat → Option α} {r : α} (h : Ev (fun k => g (k + 1)) r) : Ev g r := Ev.step (fun _ => rfl) h
theorem Ev_some {α : Type} {o : Option α} {r : α} (h : o = some r) : Ev (fun _ => o) r := ⟨0, fun _ _ => h⟩
theorem Ev_cast {α : Type} {g : Nat → Option α} {r q : α} (h : Ev g r) (e : r = q) : Ev g q := e ▸ h
theorem w64 {n : Int} (h : -9223372036854775808 ≤ n) (h' : n ≤ 9223372036854775807) : wrap64 n = n := by unfold wrap64; omega
theorem wf_i64 {n : Int} (h : (Lit.int .i64 n).wf = true) : -9223372036854775808 ≤ n ∧ n ≤ 9223372036854775807 := by
  simp only [Lit.wf, IntKind.min, IntKind.max, IntKind.signed, IntKind.bits, Bool.and_eq_true, decide_eq_true_eq, if_true] at h
  omega
theorem wf_u64 {n : Int} (h : (Lit.int .u64 n).wf = true) : 0 ≤ n ∧ n ≤ 18446744073709551615 := by
  simp only [Lit.wf, IntKind.min, IntKind.max, IntKind.signed, IntKind.bits, Bool.and_eq_true, decide_eq_true_eq, if_true] at h
  simp at h
  omega
theorem wf_u8 {n : Int} (h : (Lit.int .u8 n).wf = true) : 0 ≤ n ∧ n ≤ 255 := by
  simp only [Lit.wf, IntKind.min, IntKind.max, IntKind.signed, IntKind.bits, Bool.and_eq_true, decide_eq_true_eq, if_true] at h
  simp at h
  omega
theorem wrap_u64 (n : Int) : IntKind.u64.wrap n = n % 18446744073709551616 := by simp [IntKind.wrap, IntKind.bits, IntKind.signed]
theorem wrap_u32 (n : Int) : IntKind.u32.wrap n = n % 4294967296 := by simp [IntKind.wrap, IntKind.bits, IntKind.signed]
/-- A list of bytes. -/
def Bytes (l : List Int) : Prop := ∀ x ∈ l, 0 ≤ x ∧ x ≤ 255
theorem Bytes.wf {l : List Int} (h : ∀ x ∈ l, (Lit.int .u8 x).wf = true) : Bytes l := fun x hx => wf_u8 (h x hx)
theorem Bytes.nil : Bytes [] := fun x hx => by cases hx
theorem Bytes.app {a b : List Int} (h : Bytes a) (k : Bytes b) : Bytes (a ++ b) := fun x hx => by
  rcases List.mem_append.1 hx with h' | h'
  · exact h x h'
  · exact k x h'
theorem Bytes.one {x : Int} (h : 0 ≤ x) (h' : x ≤ 255) : Bytes [x] := fun y hy => (List.mem_singleton.1 hy) ▸ ⟨h, h'⟩
theorem Bytes.sub {a b : List Int} (h : Bytes a) (k : ∀ x ∈ b, x ∈ a) : Bytes b := fun x hx => h x (k x hx)
theorem Bytes.take {a : List Int} (h : Bytes a) (n : Nat) : Bytes (a.take n) := h.sub fun _ hx => List.mem_of_mem_take hx
theorem Bytes.drop {a : List Int} (h : Bytes a) (n : Nat) : Bytes (a.drop n) := h.sub fun _ hx => List.mem_of_mem_drop hx
theorem rd_lt {l : List Int} {i : Nat} (h : i < l.length) : rd l (i : Int) = l[i] := by simp [rd, h]
theorem Bytes.rd {l : List Int} (h : Bytes l) (i : Int) : 0 ≤ rd l i ∧ rd l i ≤ 255 := by
  unfold PrintWords.rd
  by_cases hi : i.toNat < l.length
  · rw [List.getD_eq_getElem?_getD, List.getElem?_eq_getElem hi]; exact h _ (List.getElem_mem hi)
  · rw [List.getD_eq_getElem?_getD, List.getElem?_eq_none (by omega)]; simp
theorem drop_cons {α : Type} {l : List α} {i : Nat} (h : i < l.length) : l.drop i = l[i] :: l.drop (i + 1) := List.drop_eq_getElem_cons h
/-! ### the laws' own words on bytes -/
theorem eqByteS_l0 (a b : List Int) (hl : a.length = b.length) (hb : a.length ≤ 4611686018427387904) :
    ∀ (d i : Nat), a.length - i = d → i ≤ a.length → Ev (fun k => laws_eqByteS.l0 k a b (i : Int)) (decide (a.drop i = b.drop i)) := by
  intro d
  induction d with
  | zero =>
    intro i hd hi
    refine Ev_succ ?_
    simp only [laws_eqByteS.l0]
    simp only [if_neg (show ¬ (i : Int) < (a.length : Int) by omega)]
    exact Ev_cast (Ev.now _) (by rw [List.drop_eq_nil_of_le (by omega), List.drop_eq_nil_of_le (by omega)]; simp)
  | succ d ih =>
    intro i hd hi
    refine Ev_succ ?_
    simp only [laws_eqByteS.l0]
    simp only [if_pos (show (i : Int) < (a.length : Int) by omega), if_pos (show 0 ≤ (i : Int) by omega), if_pos (show (i : Int) < (b.length : Int) by omega)]
    rw [rd_lt (by omega), rd_lt (by omega), w64 (by omega) (by omega), drop_cons (l := a) (by omega), drop_cons (l := b) (i := i) (by omega)]
    by_cases e : a[i]'(by omega) = b[i]'(by omega)
    · simp only [if_pos e]
      exact Ev_cast (ih (i + 1) (by omega) (by omega)) (decide_eq_decide.2 (by rw [List.cons.injEq]; exact ⟨fun h => ⟨e, h⟩, fun h => h.2⟩))
    · simp only [if_neg e]
      exact Ev_cast (Ev.now _) (Eq.symm (decide_eq_false (by rw [List.cons.injEq]; exact fun h => e h.1)))
theorem eqByteS_ev (a b : List Int) (ha : a.length ≤ 4611686018427387904) : Ev (fun k => laws_eqByteS.f k a b) (decide (a = b)) := by
  unfold laws_eqByteS.f
  by_cases h : a.length = b.length
  · simp only [if_pos (show (a.length : Int) = (b.length : Int) by omega)]
    exact eqByteS_l0 a b h ha a.length 0 (by omega) (by omega)
  · simp only [if_neg (show ¬ (a.length : Int) = (b.length : Int) by omega)]
    exact Ev_cast (Ev.now _) (by simp; intro e; exact h (by rw [e]))
theorem eqByteS_same (a b : List Int) (ha : a.length ≤ 4611686018427387904) (e : a = b) : Ev (fun k => laws_eqByteS.f k a b) true := Ev_cast (eqByteS_ev a b ha) (by simp [e])
theorem toByteS_l0 (l : List Int) : ∀ (d i : Nat) (o : List Int), l.length - i = d → i ≤ l.length → l.length ≤ 1152921504606846976 → o.length = l.length → o.take i = l.take i →
    Ev (fun k => laws_toByteS.l0 k l o (i : Int)) l := by
  intro d
  induction d with
  | zero =>
    intro i o hd hi hl ho ht
    refine Ev_succ ?_
    simp only [laws_toByteS.l0]
    simp only [if_neg (show ¬ (i : Int) < (l.length : Int) by omega)]
    exact Ev_cast (Ev.now _) (by rw [List.take_of_length_le (by omega), List.take_of_length_le (by omega)] at ht; exact ht)
  | succ d ih =>
    intro i o hd hi hl ho ht
    refine Ev_succ ?_
    simp only [laws_toByteS.l0]
    simp only [if_pos (show (i : Int) < (l.length : Int) by omega), if_pos (show 0 ≤ (i : Int) by omega), if_pos (show (i : Int) < (o.length : Int) by omega)]
    rw [rd_lt (by omega), w64 (by omega) (by omega)]
    refine ih (i + 1) _ (by omega) (by omega) hl (by simpa using ho) ?_
    apply List.ext_getElem?
    intro j
    rw [List.getElem?_take, List.getElem?_take]
    by_cases h1 : j < i
    · have := congrArg (fun x => x[j]?) ht
      simp only [List.getElem?_take, if_pos h1] at this
      rw [if_pos (by omega), if_pos (by omega), List.getElem?_set]
      simp only [Int.toNat_natCast]
      rw [if_neg (by omega), this]
    · by_cases h2 : j = i
      · subst h2
        rw [if_pos (by omega), if_pos (by omega)]
        simp [show j < l.length by omega, show j < o.length by omega]
      · rw [if_neg (by omega), if_neg (by omega)]
theorem toByteS_ev (l : List Int) (hl : l.length ≤ 281474976710656) : Ev (fun k => laws_toByteS.f k l) l := by
  unfold laws_toByteS.f
  simp only [if_pos (show 0 ≤ (l.length : Int) by omega), Int.toNat_natCast, if_pos hl]
  exact toByteS_l0 l l.length 0 _ (by omega) (by omega) (by omega) (by simp) (by simp)
theorem within_eq (a b c : Int) : impl_within.f a b c = some (decide (b ≤ a ∧ a ≤ c)) := by
  unfold impl_within.f
  by_cases h : a ≥ b
  · rw [if_pos h]; simp; intro; omega
  · rw [if_neg h]; simp; intro; omega
theorem l1In_eq (a b c : Int) : spec_l1In.f a b c = some (decide (b ≤ a ∧ a ≤ c)) := by
  unfold spec_l1In.f
  by_cases h : a ≥ b
  · rw [if_pos h]; simp; intro; omega
  · rw [if_neg h]; simp; intro; omega
/-! ### names of files -/
theorem data_len (s : ByteArray) : s.data.toList.length = s.size := by rw [Array.length_toList]; rfl
theorem bt_lt {s : ByteArray} {i : Nat} (h : i < s.data.toList.length) : bt s (i : Int) = ((s.data.toList[i]).toNat : Int) := by
  unfold bt
  have h2 : (i : Int).toNat < s.size := by rw [Int.toNat_natCast, ← data_len]; exact h
  rw [dif_pos h2]
  simp only [Int.toNat_natCast]
  rfl
theorem drop_while_all {α : Type} (p : α → Bool) : ∀ l : List α, (∀ x ∈ l.dropWhile p, p x = true) → ∀ x ∈ l, p x = true := by
  intro l
  induction l with
  | nil => intro _ x hx; cases hx
  | cons a t ih =>
    intro h x hx
    by_cases ha : p a = true
    · rw [List.dropWhile_cons_of_pos ha] at h
      rcases List.mem_cons.1 hx with rfl | hx
      · exact ha
      · exact ih h x hx
    · rw [List.dropWhile_cons_of_neg ha] at h
      exact h x hx
theorem all_drop_while {α : Type} (p : α → Bool) : ∀ l : List α, (∀ x ∈ l, p x = true) → l.dropWhile p = [] := by
  intro l
  induction l with
  | nil => intro _; rfl
  | cons a t ih =>
    intro h
    rw [List.dropWhile_cons_of_pos (h a (List.mem_cons_self ..))]
    exact ih (fun x hx => h x (List.mem_cons_of_mem _ hx))
theorem trimS_nil (l cs : List UInt8) : (Lib.trimS l cs == []) = l.all (cs.contains ·) := by
  rw [Bool.eq_iff_iff, beq_iff_eq, List.all_eq_true]
  unfold Lib.trimS Lib.trimLeftS Lib.trimRightS
  constructor
  · intro h x hx
    have h1 : ∀ x ∈ (List.dropWhile (fun x => cs.contains x) l.reverse).reverse, cs.contains x = true :=
      drop_while_all _ _ (by rw [h]; intro x hx; cases hx)
    exact drop_while_all _ l.reverse (fun x hx => h1 x (List.mem_reverse.2 hx)) x (List.mem_reverse.2 hx)
  · intro h
    rw [all_drop_while _ l.reverse (fun x hx => h x (List.mem_reverse.1 hx))]
    rfl
def fileB (b : UInt8) : Bool := decide ((97 ≤ b.toNat ∧ b.toNat ≤ 122) ∨ (48 ≤ b.toNat ∧ b.toNat ≤ 57) ∨ b.toNat = 45)
def isFile (s : ByteArray) : Bool := decide (1 ≤ s.size ∧ s.size ≤ 20) && s.data.toList.all fileB
def fileBytes : ByteArray := ⟨#[97, 98, 99, 100, 101, 102, 103, 104, 105, 106, 107, 108, 109, 110, 111, 112, 113, 114, 115, 116, 117, 118, 119, 120, 121, 122, 48, 49, 50, 51, 52, 53, 54, 55, 56, 57, 45]⟩
theorem file_all : ∀ n : Fin 256, fileBytes.data.toList.contains (UInt8.ofNat n.val) = fileB (UInt8.ofNat n.val) := by decide +kernel
theorem file_eq (b : UInt8) : fileBytes.data.toList.contains b = fileB b := by
  have := file_all ⟨b.toNat, b.toNat_lt⟩
  simpa using this
theorem trim_file (s : ByteArray) (hs : s.size ≤ 9223372036854775807) : ∃ t, strings_Trim.f s fileBytes = some t ∧ (t.toList == ([] : List UInt8)) = s.data.toList.all fileB := by
  refine ⟨⟨(Lib.trimS s.data.toList fileBytes.data.toList).toArray⟩, ?_, ?_⟩
  · unfold strings_Trim.f
    rw [if_pos ⟨⟨hs, by decide +kernel⟩, by decide +kernel⟩]
  · rw [Lib.toList_data]
    show (Lib.trimS s.data.toList fileBytes.data.toList == []) = _
    rw [trimS_nil]
    congr 1
    funext b
    exact file_eq b
theorem impl_isFileName_eq (s : ByteArray) (hs : s.size ≤ 9223372036854775807) : impl_isFileName.f s = some (isFile s) := by
  unfold impl_isFileName.f isFile
  rw [within_eq, Option.bind_some]
  by_cases h : 1 ≤ (s.size : Int) ∧ (s.size : Int) ≤ 20
  · rw [decide_eq_true h, if_pos rfl, decide_eq_true (show 1 ≤ s.size ∧ s.size ≤ 20 by omega), Bool.true_and]
    obtain ⟨t, h1, h2⟩ := trim_file s hs
    rw [show (⟨#[97, 98, 99, 100, 101, 102, 103, 104, 105, 106, 107, 108, 109, 110, 111, 112, 113, 114, 115, 116, 117, 118, 119, 120, 121, 122, 48, 49, 50, 51, 52, 53, 54, 55, 56, 57, 45]⟩ : ByteArray) = fileBytes from rfl, h1, Option.bind_some, h2]
  · rw [decide_eq_false h, if_neg (by decide), decide_eq_false (show ¬ (1 ≤ s.size ∧ s.size ≤ 20) by omega), Bool.false_and]
theorem spec_l2Name_ev (s : ByteArray) : Ev (fun k => spec_l2Name.f k s) (isFile s) := by
  have loop : s.size ≤ 20 → ∀ d i : Nat, s.size - i = d → i ≤ s.size → Ev (fun k => spec_l2Name.l0 k s (i : Int)) ((s.data.toList.drop i).all fileB) := by
    intro hs d
    have hl := data_len s
    induction d with
    | zero =>
      intro i hd hi
      refine Ev_succ ?_
      simp only [spec_l2Name.l0]
      simp only [if_neg (show ¬ (i : Int) < (s.size : Int) by omega)]
      exact Ev_cast (Ev.now _) (by rw [List.drop_eq_nil_of_le (by omega)]; rfl)
    | succ d ih =>
      intro i hd hi
      have hlt : i < s.data.toList.length := by omega
      refine Ev_succ ?_
      simp only [spec_l2Name.l0]
      simp only [if_pos (show (i : Int) < (s.size : Int) by omega), if_pos (show 0 ≤ (i : Int) by omega)]
      rw [bt_lt hlt, w64 (by omega) (by omega)]
      rw [List.drop_eq_getElem_cons hlt, List.all_cons]
      have nxt := ih (i + 1) (by omega) (by omega)
      rw [show (((i + 1 : Nat)) : Int) = (i : Int) + 1 by simp] at nxt
      obtain ⟨b, hb0⟩ : ∃ b, b = s.data.toList[i] := ⟨_, rfl⟩
      rw [← hb0]
      have pre : ∀ q : Bool, fileB b = q → Ev (fun k => spec_l2Name.l0 k s ((i : Int) + 1)) ((s.data.toList.drop (i + 1)).all fileB) → (q = true → Ev (fun k => spec_l2Name.l0 k s ((i : Int) + 1)) (fileB b && (s.data.toList.drop (i + 1)).all fileB)) := by
        intro q hq h ht
        exact Ev_cast h (by rw [hq, ht, Bool.true_and])
      have no : fileB b = false → Ev (fun _ => some false) (fileB b && (s.data.toList.drop (i + 1)).all fileB) := fun h => Ev_cast (Ev.now _) (by rw [h, Bool.false_and])
      have yes : fileB b = true → Ev (fun k => spec_l2Name.l0 k s ((i : Int) + 1)) (fileB b && (s.data.toList.drop (i + 1)).all fileB) := fun h => pre true h nxt rfl
      by_cases h1 : (b.toNat : Int) ≥ 97
      · simp only [if_pos h1]
        by_cases h2 : (b.toNat : Int) ≤ 122
        · simp only [if_pos h2]
          exact yes (decide_eq_true (.inl ⟨by omega, by omega⟩))
        · simp only [if_neg h2, if_pos (show (b.toNat : Int) ≥ 48 by omega), if_neg (show ¬ (b.toNat : Int) ≤ 57 by omega), if_neg (show ¬ (b.toNat : Int) = 45 by omega)]
          exact no (decide_eq_false (by omega))
      · simp only [if_neg h1]
        by_cases h3 : (b.toNat : Int) ≥ 48
        · simp only [if_pos h3]
          by_cases h4 : (b.toNat : Int) ≤ 57
          · simp only [if_pos h4]
            exact yes (decide_eq_true (by omega))
          · simp only [if_neg h4, if_neg (show ¬ (b.toNat : Int) = 45 by omega)]
            exact no (decide_eq_false (by omega))
        · simp only [if_neg h3]
          by_cases h5 : (b.toNat : Int) = 45
          · simp only [if_pos h5]
            exact yes (decide_eq_true (by omega))
          · simp only [if_neg h5]
            exact no (decide_eq_false (by omega))
  unfold spec_l2Name.f isFile
  refine Ev.bind (Ev_some (l1In_eq _ _ _)) ?_
  by_cases h : 1 ≤ (s.size : Int) ∧ (s.size : Int) ≤ 20
  · rw [decide_eq_true h, decide_eq_true (show 1 ≤ s.size ∧ s.size ≤ 20 by omega), Bool.true_and]
    simp only [if_true]
    have := loop (by omega) s.size 0 (by omega) (by omega)
    rw [List.drop_zero] at this
    exact this
  · rw [decide_eq_false h, decide_eq_false (show ¬ (1 ≤ s.size ∧ s.size ≤ 20) by omega), Bool.false_and]
    simp only [Bool.false_eq_true, if_false]
    exact Ev.now _
/-! ### files -/
theorem rd124_lt {l : List S110} {i : Nat} (h : i < l.length) : rd_T110 l (i : Int) = l[i] := by simp [rd_T110, h]
theorem rd84_lt {l : List S97} {i : Nat} (h : i < l.length) : rd_T97 l (i : Int) = l[i] := by simp [rd_T97, h]
theorem szB_eq (l : List Int) (a : Int) (h0 : 0 ≤ a) (h1 : a ≤ 1048576) (hl : l.length ≤ 9223372036854775807) : laws_szByteS.f l a = some (if a - l.length < 0 then -1 else a - l.length) := by
  unfold laws_szByteS.f
  rw [w64 (by omega) (by omega)]
  split <;> rfl
def toF (x : S110) : S97 := ⟨x.f0, x.f1, x.f2⟩
theorem szFile_eq (a : ByteArray) (b : List Int) (c z : Int) (h0 : 0 ≤ z) (h1 : z ≤ 1048576) (ha : a.size ≤ 9223372036854775807) (hb : b.length ≤ 9223372036854775807) :
    ∃ q, laws_szFile.f a b c z = some q ∧ (q < 0 ∨ (0 ≤ q ∧ q ≤ z ∧ a.size ≤ 1048576 ∧ b.length ≤ 1048576)) := by
  unfold laws_szFile.f
  rw [w64 (n := z - a.size) (by omega) (by omega)]
  by_cases c1 : z - (a.size : Int) < 0
  · exact ⟨-1, by rw [if_pos c1], .inl (by omega)⟩
  · rw [if_neg c1, szB_eq b _ (by omega) (by omega) hb, Option.bind_some]
    by_cases c2 : z - (a.size : Int) - b.length < 0
    · exact ⟨-1, by rw [if_pos c2]; rfl, .inl (by omega)⟩
    · exact ⟨z - (a.size : Int) - b.length, by rw [if_neg c2, if_neg c2], .inr ⟨by omega, by omega, by omega, by omega⟩⟩
theorem szFiles_ev (n : Int) (l : List S110) (hl : l.length ≤ 9223372036854775807) (hs : ∀ x ∈ l, x.f0.size ≤ 9223372036854775807 ∧ x.f1.length ≤ 9223372036854775807) :
    ∃ z, Ev (fun k => laws_szFiles.f k n l 1048576) z ∧ (z < 0 ∨ (l.length ≤ 1048576 ∧ ∀ x ∈ l, x.f0.size ≤ 1048576 ∧ x.f1.length ≤ 1048576)) := by
  have loop : ∀ (d i : Nat) (a : Int), l.length - i = d → i ≤ l.length → l.length ≤ 1048576 → 0 ≤ a → a ≤ 1048576 → ∃ z, Ev (fun k => laws_szFileS.l0 k l a (i : Int)) z ∧ (z < 0 ∨ (0 ≤ z ∧ z ≤ a ∧ ∀ x ∈ l.drop i, x.f0.size ≤ 1048576 ∧ x.f1.length ≤ 1048576)) := by
    intro d
    induction d with
    | zero =>
      intro i a hd hi hl2 h0 h1
      refine ⟨a, Ev_succ ?_, .inr ⟨h0, Int.le_refl _, by rw [List.drop_eq_nil_of_le (by omega)]; intro s hs; cases hs⟩⟩
      simp only [laws_szFileS.l0]
      simp only [if_neg (show ¬ (i : Int) < (l.length : Int) by omega)]
      exact Ev.now _
    | succ d ih =>
      intro i a hd hi hl2 h0 h1
      have hx := hs (l[i]'(by omega)) (List.getElem_mem _)
      obtain ⟨z1, hz1, hz2⟩ := szFile_eq (l[i]'(by omega)).f0 (l[i]'(by omega)).f1 (l[i]'(by omega)).f2 a h0 h1 hx.1 hx.2
      by_cases hn : z1 < 0
      · refine ⟨-1, Ev_succ ?_, .inl (by omega)⟩
        simp only [laws_szFileS.l0]
        simp only [if_pos (show (i : Int) < (l.length : Int) by omega), if_pos (show 0 ≤ (i : Int) by omega)]
        rw [rd124_lt (by omega)]
        refine Ev.bind (Ev_some hz1) ?_
        simp only [if_pos hn]
        exact Ev.now _
      · obtain ⟨g0, g1, g2, g3⟩ := hz2.resolve_left hn
        obtain ⟨z, hz, hz3⟩ := ih (i + 1) z1 (by omega) (by omega) hl2 g0 (by omega)
        refine ⟨z, Ev_succ ?_, ?_⟩
        · simp only [laws_szFileS.l0]
          simp only [if_pos (show (i : Int) < (l.length : Int) by omega), if_pos (show 0 ≤ (i : Int) by omega)]
          rw [rd124_lt (by omega), w64 (n := (i : Int) + 1) (by omega) (by omega)]
          refine Ev.bind (Ev_some hz1) ?_
          simp only [if_neg hn]
          exact hz
        · rcases hz3 with h | h
          · exact .inl h
          · refine .inr ⟨h.1, by omega, ?_⟩
            rw [List.drop_eq_getElem_cons (by omega)]
            intro x hx
            rcases List.mem_cons.1 hx with rfl | hx
            · exact ⟨g2, g3⟩
            · exact h.2.2 x hx
  have szs : ∃ z, Ev (fun k => laws_szFileS.f k l 1048576) z ∧ (z < 0 ∨ (l.length ≤ 1048576 ∧ ∀ x ∈ l, x.f0.size ≤ 1048576 ∧ x.f1.length ≤ 1048576)) := by
    unfold laws_szFileS.f
    rw [w64 (by omega) (by omega)]
    by_cases hn : (1048576 : Int) - l.length < 0
    · exact ⟨-1, by simp only [if_pos hn]; exact Ev.now _, .inl (by omega)⟩
    · simp only [if_neg hn]
      obtain ⟨z, hz, hz2⟩ := loop l.length 0 (1048576 - l.length) (by omega) (by omega) (by omega) (by omega) (by omega)
      exact ⟨z, hz, hz2.imp id (fun h => ⟨by omega, by simpa using h.2.2⟩)⟩
  obtain ⟨z, hz, hz2⟩ := szs
  unfold laws_szFiles.f
  by_cases hn : z < 0
  · exact ⟨-1, Ev.bind hz (by simp only [if_pos hn]; exact Ev.now _), .inl (by omega)⟩
  · exact ⟨z, Ev.bind hz (by simp only [if_neg hn]; exact Ev.now _), hz2⟩
theorem toFileS_l0 (l : List S110) (hs : ∀ x ∈ l, x.f1.length ≤ 1048576) : ∀ (d i : Nat) (o : List S97), l.length - i = d → i ≤ l.length → l.length ≤ 1048576 → o.length = l.length → o.take i = (l.map toF).take i →
    Ev (fun k => laws_toFileS.l0 k l o (i : Int)) (l.map toF) := by
  intro d
  induction d with
  | zero =>
    intro i o hd hi hl ho ht
    refine Ev_succ ?_
    simp only [laws_toFileS.l0]
    simp only [if_neg (show ¬ (i : Int) < (l.length : Int) by omega)]
    exact Ev_cast (Ev.now _) (by rw [List.take_of_length_le (by omega), List.take_of_length_le (by simp; omega)] at ht; exact ht)
  | succ d ih =>
    intro i o hd hi hl ho ht
    refine Ev_succ ?_
    have hx := hs (l[i]'(by omega)) (List.getElem_mem _)
    simp only [laws_toFileS.l0]
    simp only [if_pos (show (i : Int) < (l.length : Int) by omega), if_pos (show 0 ≤ (i : Int) by omega), if_pos (show (i : Int) < (o.length : Int) by omega)]
    rw [rd124_lt (by omega), w64 (by omega) (by omega)]
    refine Ev.bind (a := ((l[i]'(by omega)).f0, (l[i]'(by omega)).f1, (l[i]'(by omega)).f2)) (by unfold laws_toFile.f; exact Ev.bind (toByteS_ev _ (by omega)) (Ev.now _)) ?_
    refine ih (i + 1) _ (by omega) (by omega) hl (by simpa using ho) ?_
    apply List.ext_getElem?
    intro j
    rw [List.getElem?_take, List.getElem?_take]
    by_cases h1 : j < i
    · have := congrArg (fun x => x[j]?) ht
      simp only [List.getElem?_take, if_pos h1] at this
      rw [if_pos (by omega), if_pos (by omega), List.getElem?_set]
      simp only [Int.toNat_natCast]
      rw [if_neg (by omega), this]
    · by_cases h2 : j = i
      · subst h2
        rw [if_pos (by omega), if_pos (by omega), List.getElem?_set]
        simp only [Int.toNat_natCast, if_true]
        rw [if_pos (by omega)]
        simp [show j < l.length by omega, toF]
      · rw [if_neg (by omega), if_neg (by omega)]
theorem toFiles_ev (n : Int) (l : List S110) (hl : l.length ≤ 1048576) (hs : ∀ x ∈ l, x.f1.length ≤ 1048576) : Ev (fun k => laws_toFiles.f k n l) (n, l.map toF) := by
  unfold laws_toFiles.f laws_toFileS.f
  simp only [if_pos (show 0 ≤ (l.length : Int) by omega), Int.toNat_natCast, if_pos (show l.length ≤ 5864062014805 by omega)]
  exact Ev.bind (toFileS_l0 l hs l.length 0 _ (by omega) (by omega) (by omega) (by simp) (by simp)) (Ev.now _)
theorem eqFiles_same (n : Int) (l : List S97) (hl : l.length ≤ 1048576) (hs : ∀ x ∈ l, x.f1.length ≤ 1048576) : Ev (fun k => laws_eqFiles.f k n l n l) true := by
  have loop : ∀ (d i : Nat), l.length - i = d → i ≤ l.length → Ev (fun k => laws_eqFileS.l0 k l l (i : Int)) true := by
    intro d
    induction d with
    | zero =>
      intro i hd hi
      refine Ev_succ ?_
      simp only [laws_eqFileS.l0]
      simp only [if_neg (show ¬ (i : Int) < (l.length : Int) by omega)]
      exact Ev.now _
    | succ d ih =>
      intro i hd hi
      refine Ev_succ ?_
      have hx := hs (l[i]'(by omega)) (List.getElem_mem _)
      simp only [laws_eqFileS.l0]
      simp only [if_pos (show (i : Int) < (l.length : Int) by omega), if_pos (show 0 ≤ (i : Int) by omega)]
      rw [rd84_lt (by omega), w64 (by omega) (by omega)]
      refine Ev.bind (a := true) ?_ ?_
      · unfold laws_eqFile.f
        simp only [if_true]
        refine Ev.bind (eqByteS_same _ _ (by omega) rfl) ?_
        simp only [if_true]
        exact Ev.now _
      · simp only [if_true]
        exact ih (i + 1) (by omega) (by omega)
  unfold laws_eqFiles.f laws_eqFileS.f
  simp only [if_true]
  refine Ev.bind (loop l.length 0 (by omega) (by omega)) ?_
  simp only [if_true]
  exact Ev.now _
def usedOf (l : List S97) : Nat := (l.map (fun x => x.f1.length)).sum
theorem usedOf_le (l : List S97) (hs : ∀ x ∈ l, x.f1.length ≤ 1048576) : usedOf l ≤ l.length * 1048576 := by
  induction l with
  | nil => simp [usedOf]
  | cons a t ih =>
    have h1 := hs a (List.mem_cons_self ..)
    have h2 := ih (fun x hx => hs x (List.mem_cons_of_mem _ hx))
    unfold usedOf at h2 ⊢
    rw [List.map_cons, List.sum_cons, List.length_cons]
    omega
def fileOk (l : List S97) (i : Nat) : Bool := isFile (rd_T97 l (i : Int)).f0 && decide (0 ≤ (rd_T97 l (i : Int)).f2 ∧ (rd_T97 l (i : Int)).f2 ≤ ((rd_T97 l (i : Int)).f1.length : Int)) && (decide (i = 0) || Op.bytesLess (rd_T97 l ((i : Int) - 1)).f0.toList (rd_T97 l (i : Int)).f0.toList)
def filesFrom (l : List S97) : Nat → Nat → Bool
  | 0, _ => true
  | d + 1, i => fileOk l i && filesFrom l d (i + 1)
def goodFiles (n : Int) (l : List S97) : Bool := decide (0 ≤ n ∧ n ≤ 60000) && decide (l.length ≤ 40) && decide ((usedOf l : Int) ≤ n) && filesFrom l l.length 0
def usedBytes (n : Int) (l : List S97) : Int × Bool := if goodFiles n l = true then ((usedOf l : Int), true) else (0, false)
theorem spec_l2Used_ev (n : Int) (l : List S97) (hl : l.length ≤ 1048576) (hs : ∀ x ∈ l, x.f1.length ≤ 1048576) : Ev (fun k => spec_l2Used.f k n l) ((usedOf l : Nat) : Int) := by
  have loop : ∀ d i : Nat, l.length - i = d → i ≤ l.length → ∀ a : Nat, a ≤ i * 1048576 → Ev (fun k => spec_l2Used.l0 k (a : Int) l (l.length : Int) (i : Int)) (((a + usedOf (l.drop i) : Nat)) : Int) := by
    intro d
    induction d with
    | zero =>
      intro i hd hi a ha
      refine Ev_succ ?_
      simp only [spec_l2Used.l0]
      simp only [if_neg (show ¬ (i : Int) < (l.length : Int) by omega)]
      exact Ev_cast (Ev.now _) (by rw [List.drop_eq_nil_of_le (by omega)]; simp [usedOf])
    | succ d ih =>
      intro i hd hi a ha
      have hlt : i < l.length := by omega
      have hx := hs (l[i]) (List.getElem_mem _)
      refine Ev_succ ?_
      simp only [spec_l2Used.l0]
      simp only [if_pos (show (i : Int) < (l.length : Int) by omega), if_pos (show 0 ≤ (i : Int) by omega)]
      rw [rd84_lt hlt, w64 (n := (i : Int) + 1) (by omega) (by omega), w64 (n := (a : Int) + _) (by omega) (by omega)]
      have := ih (i + 1) (by omega) (by omega) (a + l[i].f1.length) (by omega)
      rw [show (((i + 1 : Nat)) : Int) = (i : Int) + 1 by simp, show (((a + l[i].f1.length : Nat)) : Int) = (a : Int) + (l[i].f1.length : Int) by simp] at this
      refine Ev_cast this ?_
      rw [List.drop_eq_getElem_cons hlt]
      unfold usedOf
      rw [List.map_cons, List.sum_cons]
      omega
  unfold spec_l2Used.f
  have := loop l.length 0 (by omega) (by omega) 0 (by omega)
  refine Ev_cast this ?_
  simp
theorem impl_Files_used_ev (n : Int) (l : List S97) (hl : l.length ≤ 1048576) (hs : ∀ x ∈ l, x.f1.length ≤ 1048576) : Ev (fun k => impl_Files_used.f k n l) ((usedOf l : Nat) : Int) := by
  have loop : ∀ d i : Nat, l.length - i = d → i ≤ l.length → ∀ a : Nat, a ≤ i * 1048576 → Ev (fun k => impl_Files_used.l0 k (a : Int) l (l.length : Int) (i : Int)) (((a + usedOf (l.drop i) : Nat)) : Int) := by
    intro d
    induction d with
    | zero =>
      intro i hd hi a ha
      refine Ev_succ ?_
      simp only [impl_Files_used.l0]
      simp only [if_neg (show ¬ (i : Int) < (l.length : Int) by omega)]
      exact Ev_cast (Ev.now _) (by rw [List.drop_eq_nil_of_le (by omega)]; simp [usedOf])
    | succ d ih =>
      intro i hd hi a ha
      have hlt : i < l.length := by omega
      have hx := hs (l[i]) (List.getElem_mem _)
      refine Ev_succ ?_
      simp only [impl_Files_used.l0]
      simp only [if_pos (show (i : Int) < (l.length : Int) by omega), if_pos (show 0 ≤ (i : Int) by omega)]
      rw [rd84_lt hlt, w64 (n := (i : Int) + 1) (by omega) (by omega), w64 (n := (a : Int) + _) (by omega) (by omega)]
      have := ih (i + 1) (by omega) (by omega) (a + l[i].f1.length) (by omega)
      rw [show (((i + 1 : Nat)) : Int) = (i : Int) + 1 by simp, show (((a + l[i].f1.length : Nat)) : Int) = (a : Int) + (l[i].f1.length : Int) by simp] at this
      refine Ev_cast this ?_
      rw [List.drop_eq_getElem_cons hlt]
      unfold usedOf
      rw [List.map_cons, List.sum_cons]
      omega
  unfold impl_Files_used.f
  have := loop l.length 0 (by omega) (by omega) 0 (by omega)
  refine Ev_cast this ?_
  simp
theorem spec_GoodFiles_ev (n : Int) (l : List S97) (hl : l.length ≤ 1048576) (hs : ∀ x ∈ l, x.f0.size ≤ 1048576 ∧ x.f1.length ≤ 1048576) : Ev (fun k => spec_GoodFiles.f k n l) (goodFiles n l) := by
  have loop : ∀ d i : Nat, l.length - i = d → i ≤ l.length → Ev (fun k => spec_GoodFiles.l0 k l (l.length : Int) (i : Int) n l) (filesFrom l d i && decide ((usedOf l : Int) ≤ n)) := by
    intro d
    induction d with
    | zero =>
      intro i hd hi
      refine Ev_succ ?_
      simp only [spec_GoodFiles.l0]
      simp only [if_neg (show ¬ (i : Int) < (l.length : Int) by omega)]
      exact Ev.bind (spec_l2Used_ev n l hl (fun x hx => (hs x hx).2)) (Ev_cast (Ev.now _) (by simp [filesFrom]))
    | succ d ih =>
      intro i hd hi
      have hlt : i < l.length := by omega
      refine Ev_succ ?_
      have nxt := ih (i + 1) (by omega) (by omega)
      rw [show (((i + 1 : Nat)) : Int) = (i : Int) + 1 by simp] at nxt
      simp only [spec_GoodFiles.l0]
      simp only [if_pos (show (i : Int) < (l.length : Int) by omega), if_pos (show 0 ≤ (i : Int) by omega)]
      rw [w64 (n := (i : Int) + 1) (by omega) (by omega)]
      have yes : fileOk l i = true → Ev (fun k => spec_GoodFiles.l0 k l (l.length : Int) ((i : Int) + 1) n l) (filesFrom l (d + 1) i && decide ((usedOf l : Int) ≤ n)) := fun h => Ev_cast nxt (by simp [filesFrom, h])
      have no : fileOk l i = false → Ev (fun _ => some false) (filesFrom l (d + 1) i && decide ((usedOf l : Int) ≤ n)) := fun h => Ev_cast (Ev.now _) (by simp [filesFrom, h])
      refine Ev.bind (spec_l2Name_ev _) ?_
      by_cases h1 : isFile (rd_T97 l (i : Int)).f0 = true
      · simp only [if_pos h1]
        by_cases h0 : (i : Int) > 0
        · simp only [if_pos h0]
          rw [w64 (n := (i : Int) - 1) (by omega) (by omega)]
          simp only [if_pos (show 0 ≤ (i : Int) - 1 by omega), if_pos (show (i : Int) - 1 < (l.length : Int) by omega)]
          by_cases h3 : Op.bytesLess (rd_T97 l ((i : Int) - 1)).f0.toList (rd_T97 l (i : Int)).f0.toList = true
          · simp only [if_pos h3]
            refine Ev.bind (Ev_some (l1In_eq _ _ _)) ?_
            by_cases h2 : 0 ≤ (rd_T97 l (i : Int)).f2 ∧ (rd_T97 l (i : Int)).f2 ≤ ((rd_T97 l (i : Int)).f1.length : Int)
            · rw [decide_eq_true h2]
              simp only [if_true]
              exact yes (by unfold fileOk; rw [h1, decide_eq_true h2, h3, Bool.or_true]; rfl)
            · rw [decide_eq_false h2]
              simp only [Bool.false_eq_true, if_false]
              exact no (by unfold fileOk; rw [decide_eq_false h2, Bool.and_false, Bool.false_and])
          · simp only [if_neg h3]
            exact no (by unfold fileOk; rw [Bool.eq_false_iff.mpr h3, decide_eq_false (show ¬ i = 0 by omega), Bool.or_false, Bool.and_false])
        · simp only [if_neg h0]
          refine Ev.bind (Ev_some (l1In_eq _ _ _)) ?_
          by_cases h2 : 0 ≤ (rd_T97 l (i : Int)).f2 ∧ (rd_T97 l (i : Int)).f2 ≤ ((rd_T97 l (i : Int)).f1.length : Int)
          · rw [decide_eq_true h2]
            simp only [if_true]
            exact yes (by unfold fileOk; rw [h1, decide_eq_true h2, decide_eq_true (show i = 0 by omega)]; rfl)
          · rw [decide_eq_false h2]
            simp only [Bool.false_eq_true, if_false]
            exact no (by unfold fileOk; rw [decide_eq_false h2, Bool.and_false, Bool.false_and])
      · simp only [if_neg h1]
        exact no (by unfold fileOk; rw [Bool.eq_false_iff.mpr h1, Bool.false_and, Bool.false_and])
  have j0 : ∀ b : Bool, (b = true → goodFiles n l = false) → (b = false → goodFiles n l = (filesFrom l l.length 0 && decide ((usedOf l : Int) ≤ n))) → Ev (fun k => spec_GoodFiles.j0 k b n l) (goodFiles n l) := by
    intro b h1 h2
    refine Ev_succ ?_
    cases b with
    | true => simp only [spec_GoodFiles.j0, if_true]; exact Ev_cast (Ev.now _) (h1 rfl).symm
    | false =>
      simp only [spec_GoodFiles.j0, Bool.false_eq_true, if_false]
      exact Ev_cast (loop l.length 0 (by omega) (by omega)) (h2 rfl).symm
  unfold spec_GoodFiles.f
  refine Ev.bind (Ev_some (l1In_eq _ _ _)) ?_
  by_cases h1 : 0 ≤ n ∧ n ≤ 60000
  · rw [decide_eq_true h1]
    simp only [if_true]
    refine j0 _ ?_ ?_
    · intro h
      have := of_decide_eq_true h
      unfold goodFiles
      rw [decide_eq_false (show ¬ l.length ≤ 40 by omega), Bool.and_false, Bool.false_and, Bool.false_and]
    · intro h
      have := of_decide_eq_false h
      unfold goodFiles
      rw [decide_eq_true h1, decide_eq_true (show l.length ≤ 40 by omega), Bool.true_and, Bool.true_and, Bool.and_comm]
  · rw [decide_eq_false h1]
    simp only [Bool.false_eq_true, if_false]
    exact j0 _ (fun _ => by unfold goodFiles; rw [decide_eq_false h1, Bool.false_and, Bool.false_and, Bool.false_and]) (fun h => by cases h)
theorem impl_GoodFiles_ev (n : Int) (l : List S97) (hl : l.length ≤ 1048576) (hs : ∀ x ∈ l, x.f0.size ≤ 1048576 ∧ x.f1.length ≤ 1048576) : Ev (fun k => impl_GoodFiles.f k n l) (goodFiles n l) := by
  have loop : ∀ d i : Nat, l.length - i = d → i ≤ l.length → Ev (fun k => impl_GoodFiles.l0 k l (l.length : Int) (i : Int) n l) (filesFrom l d i) := by
    intro d
    induction d with
    | zero =>
      intro i hd hi
      refine Ev_succ ?_
      simp only [impl_GoodFiles.l0]
      simp only [if_neg (show ¬ (i : Int) < (l.length : Int) by omega)]
      exact Ev.now _
    | succ d ih =>
      intro i hd hi
      have hlt : i < l.length := by omega
      have hx := hs (l[i]) (List.getElem_mem _)
      rw [← rd84_lt hlt] at hx
      refine Ev_succ ?_
      have nxt := ih (i + 1) (by omega) (by omega)
      rw [show (((i + 1 : Nat)) : Int) = (i : Int) + 1 by simp] at nxt
      simp only [impl_GoodFiles.l0]
      simp only [if_pos (show (i : Int) < (l.length : Int) by omega), if_pos (show 0 ≤ (i : Int) by omega)]
      rw [w64 (n := (i : Int) + 1) (by omega) (by omega)]
      have yes : fileOk l i = true → Ev (fun k => impl_GoodFiles.l0 k l (l.length : Int) ((i : Int) + 1) n l) (filesFrom l (d + 1) i) := fun h => Ev_cast nxt (by simp [filesFrom, h])
      have no : fileOk l i = false → Ev (fun _ => some false) (filesFrom l (d + 1) i) := fun h => Ev_cast (Ev.now _) (by simp [filesFrom, h])
      refine Ev.bind (Ev_some (impl_isFileName_eq _ (by omega))) ?_
      by_cases h1 : isFile (rd_T97 l (i : Int)).f0 = true
      · simp only [if_pos h1]
        refine Ev.bind (Ev_some (within_eq _ _ _)) ?_
        by_cases h2 : 0 ≤ (rd_T97 l (i : Int)).f2 ∧ (rd_T97 l (i : Int)).f2 ≤ ((rd_T97 l (i : Int)).f1.length : Int)
        · rw [decide_eq_true h2]
          simp only [if_true]
          by_cases h0 : (i : Int) > 0
          · simp only [if_pos h0]
            rw [w64 (n := (i : Int) - 1) (by omega) (by omega)]
            simp only [if_pos (show 0 ≤ (i : Int) - 1 by omega), if_pos (show (i : Int) - 1 < (l.length : Int) by omega)]
            by_cases h3 : Op.bytesLess (rd_T97 l ((i : Int) - 1)).f0.toList (rd_T97 l (i : Int)).f0.toList = true
            · simp only [if_pos h3]
              exact yes (by unfold fileOk; rw [h1, decide_eq_true h2, h3, Bool.or_true]; rfl)
            · simp only [if_neg h3]
              exact no (by unfold fileOk; rw [Bool.eq_false_iff.mpr h3, decide_eq_false (show ¬ i = 0 by omega), Bool.or_false, Bool.and_false])
          · simp only [if_neg h0]
            exact yes (by unfold fileOk; rw [h1, decide_eq_true h2, decide_eq_true (show i = 0 by omega)]; rfl)
        · rw [decide_eq_false h2]
          simp only [Bool.false_eq_true, if_false]
          exact no (by unfold fileOk; rw [decide_eq_false h2, Bool.and_false, Bool.false_and])
      · simp only [if_neg h1]
        exact no (by unfold fileOk; rw [Bool.eq_false_iff.mpr h1, Bool.false_and, Bool.false_and])
  have j0 : ∀ b : Bool, (b = true → goodFiles n l = false) → (b = false → goodFiles n l = filesFrom l l.length 0) → Ev (fun k => impl_GoodFiles.j0 k b n l) (goodFiles n l) := by
    intro b h1 h2
    refine Ev_succ ?_
    cases b with
    | true => simp only [impl_GoodFiles.j0, if_true]; exact Ev_cast (Ev.now _) (h1 rfl).symm
    | false =>
      simp only [impl_GoodFiles.j0, Bool.false_eq_true, if_false]
      exact Ev_cast (loop l.length 0 (by omega) (by omega)) (h2 rfl).symm
  unfold impl_GoodFiles.f
  refine Ev.bind (Ev_some (within_eq _ _ _)) ?_
  by_cases h1 : 0 ≤ n ∧ n ≤ 60000
  · rw [decide_eq_true h1]
    simp only [if_true]
    by_cases h2 : (l.length : Int) > 40
    · simp only [if_pos h2]
      exact j0 _ (fun _ => by unfold goodFiles; rw [decide_eq_false (show ¬ l.length ≤ 40 by omega), Bool.and_false, Bool.false_and, Bool.false_and]) (fun h => by cases h)
    · simp only [if_neg h2]
      refine Ev.bind (impl_Files_used_ev n l hl (fun x hx => (hs x hx).2)) ?_
      refine j0 _ ?_ ?_
      · intro h
        have := of_decide_eq_true h
        unfold goodFiles
        rw [decide_eq_false (show ¬ (usedOf l : Int) ≤ n by omega), Bool.and_false, Bool.false_and]
      · intro h
        have := of_decide_eq_false h
        unfold goodFiles
        rw [decide_eq_true h1, decide_eq_true (show l.length ≤ 40 by omega), decide_eq_true (show (usedOf l : Int) ≤ n by omega), Bool.true_and, Bool.true_and, Bool.true_and]
  · rw [decide_eq_false h1]
    simp only [Bool.false_eq_true, if_false]
    exact j0 _ (fun _ => by unfold goodFiles; rw [decide_eq_false h1, Bool.false_and, Bool.false_and, Bool.false_and]) (fun h => by cases h)
/-! ### the order of texts -/
theorem bytesLess_trans : ∀ (a b c : List UInt8), Op.bytesLess a b = true → Op.bytesLess b c = true → Op.bytesLess a c = true := by
  intro a
  induction a with
  | nil =>
    intro b c h1 h2
    cases b with
    | nil => simp [Op.bytesLess] at h1
    | cons y b => cases c with
      | nil => simp [Op.bytesLess] at h2
      | cons z c => rfl
  | cons x a ih =>
    intro b c h1 h2
    cases b with
    | nil => simp [Op.bytesLess] at h1
    | cons y b =>
      cases c with
      | nil => simp [Op.bytesLess] at h2
      | cons z c =>
        simp only [Op.bytesLess, Bool.or_eq_true, decide_eq_true_eq, Bool.and_eq_true, beq_iff_eq] at h1 h2 ⊢
        rcases h1 with h1 | ⟨rfl, h1⟩
        · rcases h2 with h2 | ⟨rfl, h2⟩
          · exact .inl (UInt8.lt_trans h1 h2)
          · exact .inl h1
        · rcases h2 with h2 | ⟨rfl, h2⟩
          · exact .inl h2
          · exact .inr ⟨rfl, ih b c h1 h2⟩
/-- What a list reads once it was marked from m on. -/
def markedFrom (m : Int) : Nat → List Int
  | 0 => []
  | n + 1 => (m % 256) :: markedFrom (m + 1) n
theorem markedFrom_length (n : Nat) : ∀ m, (markedFrom m n).length = n := by
  induction n with
  | zero => intro m; rfl
  | succ n ih => intro m; simp [markedFrom, ih]
theorem markByteS_l0 (m : Int) : ∀ (d i : Nat) (l : List Int), l.length - i = d → i ≤ l.length → l.length ≤ 1152921504606846976 → 0 ≤ m → m ≤ 1152921504606846976 + i →
    Ev (fun k => laws_markByteS.l0 k l m (i : Int)) (m + d, l.take i ++ markedFrom m d) := by
  intro d
  induction d generalizing m with
  | zero =>
    intro i l hd hi hl h0 hm
    refine Ev_succ ?_
    simp only [laws_markByteS.l0]
    simp only [if_neg (show ¬ (i : Int) < (l.length : Int) by omega)]
    exact Ev_cast (Ev.now _) (by rw [List.take_of_length_le (by omega)]; simp [markedFrom])
  | succ d ih =>
    intro i l hd hi hl h0 hm
    refine Ev_succ ?_
    simp only [laws_markByteS.l0]
    simp only [if_pos (show (i : Int) < (l.length : Int) by omega), if_pos (show 0 ≤ (i : Int) by omega)]
    rw [w64 (n := m + 1) (by omega) (by omega), w64 (by omega) (by omega)]
    refine Ev_cast (ih (m + 1) (i + 1) (l.set i (m % 256)) (by simp; omega) (by simp; omega) (by simpa using hl) (by omega) (by omega)) ?_
    refine Prod.ext (by simp; omega) ?_
    show (l.set i (m % 256)).take (i + 1) ++ markedFrom (m + 1) d = l.take i ++ markedFrom m (d + 1)
    have : (l.set i (m % 256)).take (i + 1) = l.take i ++ [m % 256] := by
      apply List.ext_getElem?
      intro j
      rw [List.getElem?_take, List.getElem?_append, List.getElem?_set]
      have : (l.take i).length = i := by simp; omega
      rw [this]
      by_cases h1 : j < i
      · rw [if_pos (by omega), if_neg (by omega), if_pos h1, List.getElem?_take, if_pos h1]
      · by_cases h2 : j = i
        · subst h2; simp; omega
        · rw [if_neg (by omega), if_neg h1]; simp; omega
    rw [this]; simp [markedFrom]
theorem markByteS_ev (l : List Int) (m : Int) (hl : l.length ≤ 1152921504606846976) (h0 : 0 ≤ m) (hm : m ≤ 1152921504606846976) : Ev (fun k => laws_markByteS.f k l m) (m + l.length, markedFrom m l.length) := by
  unfold laws_markByteS.f
  exact Ev_cast (markByteS_l0 m l.length 0 l (by omega) (by omega) hl h0 (by omega)) (by simp)
theorem heldByteS_l0 : ∀ (n : Nat) (m : Int) (i : Nat) (p : List Int), p.length = i → i + n ≤ 1152921504606846976 → 0 ≤ m → m ≤ 1152921504606846976 + i →
    Ev (fun k => laws_heldByteS.l0 k (p ++ markedFrom m n) m (i : Int)) (m + n) := by
  intro n
  induction n with
  | zero =>
    intro m i p hp hl h0 hm
    refine Ev_succ ?_
    simp only [laws_heldByteS.l0]
    simp only [markedFrom, List.append_nil, if_neg (show ¬ (i : Int) < (p.length : Int) by omega)]
    exact Ev_cast (Ev.now _) (by simp)
  | succ n ih =>
    intro m i p hp hl h0 hm
    refine Ev_succ ?_
    simp only [laws_heldByteS.l0]
    have hlen : (p ++ markedFrom m (n + 1)).length = i + n + 1 := by rw [List.length_append, markedFrom_length]; omega
    have hr : rd (p ++ markedFrom m (n + 1)) (i : Int) = m % 256 := by
      rw [rd_lt (by omega)]; simp [markedFrom, hp]
    simp only [if_pos (show (i : Int) < ((p ++ markedFrom m (n + 1)).length : Int) by omega), if_pos (show 0 ≤ (i : Int) by omega), hr, if_true]
    rw [w64 (n := m + 1) (by omega) (by omega), w64 (by omega) (by omega)]
    have e : p ++ markedFrom m (n + 1) = (p ++ [m % 256]) ++ markedFrom (m + 1) n := by simp [markedFrom]
    rw [e]
    exact Ev_cast (ih (m + 1) (i + 1) (p ++ [m % 256]) (by simp [hp]) (by omega) (by omega) (by omega)) (by omega)
theorem heldByteS_ev (m : Int) (n : Nat) (hl : n ≤ 1152921504606846976) (h0 : 0 ≤ m) (hm : m ≤ 1152921504606846976) : Ev (fun k => laws_heldByteS.f k (markedFrom m n) m) (m + n) := by
  unfold laws_heldByteS.f
  exact heldByteS_l0 n m 0 [] rfl (by omega) h0 (by omega)
/-! ### marks in texts -/
theorem markText_l0 : ∀ (n : Nat) (s : ByteArray), s.size + n ≤ 4611686018427387904 → ∃ r, Ev (fun k => laws_markText.l0 k (n : Int) s) r := by
  intro n
  induction n using Nat.strongRecOn with
  | ind n ih =>
    intro s h
    by_cases h0 : 0 < n
    · have hsz : ∀ x : Int, (strOfNums [x]).size = 1 := fun x => by simp [strOfNums]; rfl
      obtain ⟨r, hr⟩ := ih (n / 10) (by omega) (strOfNums [(wrap64 (48 + Int.tmod (n : Int) 10)) % 256] ++ s) (by rw [ByteArray.size_append, hsz]; omega)
      refine ⟨r, Ev_succ ?_⟩
      simp only [laws_markText.l0]
      simp only [if_pos (show (n : Int) > 0 by omega), Option.bind_some]
      simp only [hsz, if_pos (show 1 + s.size ≤ 9223372036854775807 by omega)]
      rw [show wrap64 (Int.tdiv (n : Int) 10) = ((n / 10 : Nat) : Int) by rw [Int.tdiv_eq_ediv_of_nonneg (by omega), w64 (by omega) (by omega)]; omega]
      exact hr
    · refine ⟨(⟨#[109]⟩ : ByteArray) ++ s, Ev_succ ?_⟩
      simp only [laws_markText.l0]
      simp only [if_neg (show ¬ (n : Int) > 0 by omega), if_pos (show 1 + s.size ≤ 9223372036854775807 by omega)]
      exact Ev.now _
theorem markText_ev (n : Nat) (h : n ≤ 1152921504606846976) : ∃ r, Ev (fun k => laws_markText.f k (n : Int)) r := by
  unfold laws_markText.f
  by_cases h0 : (n : Int) ≤ 0
  · simp only [if_pos h0]
    exact ⟨_, Ev.now _⟩
  · simp only [if_neg h0]
    exact markText_l0 n _ (by show 0 + n ≤ _; omega)
/-! ### a file's place -/
/-- one text against another, as strings.Compare has it -/
def cmpT (a b : ByteArray) : Int := Lib.compareBytes a.data.toList b.data.toList
theorem cmpL_zero : ∀ a b : List UInt8, Lib.compareBytes a b = 0 ↔ a = b := by
  intro a
  induction a with
  | nil => intro b; cases b <;> simp [Lib.compareBytes]
  | cons x a ih =>
    intro b
    cases b with
    | nil => simp [Lib.compareBytes]
    | cons y b =>
      simp only [Lib.compareBytes]
      by_cases h1 : x < y
      · have : ¬ x = y := fun h => by rw [h] at h1; exact UInt8.lt_irrefl _ h1
        simp [h1, this]
      · by_cases h2 : y < x
        · have : ¬ x = y := fun h => by rw [h] at h2; exact UInt8.lt_irrefl _ h2
          simp [h1, h2, this]
        · have : x = y := UInt8.le_antisymm (UInt8.not_lt.1 h2) (UInt8.not_lt.1 h1)
          simp [this, ih]
theorem cmpL_neg : ∀ a b : List UInt8, Lib.compareBytes a b < 0 ↔ Op.bytesLess a b = true := by
  intro a
  induction a with
  | nil => intro b; cases b <;> simp [Lib.compareBytes, Op.bytesLess]
  | cons x a ih =>
    intro b
    cases b with
    | nil => simp [Lib.compareBytes, Op.bytesLess]
    | cons y b =>
      simp only [Lib.compareBytes, Op.bytesLess]
      by_cases h1 : x < y
      · simp [h1]
      · by_cases h2 : y < x
        · have : ¬ x = y := fun h => by rw [h] at h2; exact UInt8.lt_irrefl _ h2
          simp [h1, h2, this]
        · have : x = y := UInt8.le_antisymm (UInt8.not_lt.1 h2) (UInt8.not_lt.1 h1)
          subst this
          simp [ih]
theorem cmpT_zero (a b : ByteArray) : cmpT a b = 0 ↔ a.toList = b.toList := by
  unfold cmpT
  rw [cmpL_zero, Lib.toList_data, Lib.toList_data]
theorem cmpT_neg (a b : ByteArray) : cmpT a b < 0 ↔ Op.bytesLess a.toList b.toList = true := by
  unfold cmpT
  rw [cmpL_neg, Lib.toList_data, Lib.toList_data]
theorem less_irrefl : ∀ a : List UInt8, Op.bytesLess a a = false := by
  intro a
  have := (cmpL_neg a a)
  rw [(cmpL_zero a a).2 rfl] at this
  exact Bool.eq_false_iff.2 (fun h => by have := this.2 h; omega)
/-- names of good files rise -/
theorem files_rise (l : List S97) : ∀ (d i : Nat), filesFrom l d i = true → ∀ j, i ≤ j → j < i + d → fileOk l j = true := by
  intro d
  induction d with
  | zero => intro i h j h1 h2; omega
  | succ d ih =>
    intro i h j h1 h2
    simp only [filesFrom, Bool.and_eq_true] at h
    by_cases e : j = i
    · rw [e]; exact h.1
    · exact ih (i + 1) h.2 j (by omega) (by omega)
def nm (l : List S97) (i : Nat) : ByteArray := (rd_T97 l (i : Int)).f0
theorem names_rise (l : List S97) (hok : ∀ j, j < l.length → fileOk l j = true) : ∀ (d i : Nat), i + d + 1 < l.length → Op.bytesLess (nm l i).toList (nm l (i + d + 1)).toList = true := by
  have step : ∀ i, i + 1 < l.length → Op.bytesLess (nm l i).toList (nm l (i + 1)).toList = true := by
    intro i hi
    have := hok (i + 1) hi
    unfold fileOk at this
    simp only [Bool.and_eq_true, Bool.or_eq_true, decide_eq_true_eq] at this
    have h2 := this.2.resolve_left (by omega)
    rw [show ((i + 1 : Nat) : Int) - 1 = (i : Int) by omega] at h2
    exact h2
  intro d
  induction d with
  | zero => intro i hi; exact step i hi
  | succ d ih =>
    intro i hi
    exact bytesLess_trans _ _ _ (ih i (by omega)) (step (i + d + 1) (by omega))
theorem cmp_down (l : List S97) (key : ByteArray) (hok : ∀ j, j < l.length → fileOk l j = true) {i j : Nat} (hij : i < j) (hj : j < l.length) (h : cmpT (nm l j) key ≤ 0) : cmpT (nm l i) key < 0 := by
  rw [cmpT_neg]
  have h1 := names_rise l hok (j - i - 1) i (by omega)
  rw [show i + (j - i - 1) + 1 = j by omega] at h1
  by_cases h0 : cmpT (nm l j) key = 0
  · rw [cmpT_zero] at h0
    rw [← h0]; exact h1
  · exact bytesLess_trans _ _ _ h1 ((cmpT_neg _ _).1 (by omega))
/-- what the search comes to -/
def foundAt (l : List S97) (key : ByteArray) (p : Nat) : Prop := p ≤ l.length ∧ (∀ i, i < p → cmpT (nm l i) key < 0) ∧ ∀ i, p ≤ i → i < l.length → ¬ cmpT (nm l i) key < 0
theorem find_ev (l : List S97) (key : ByteArray) (hl : l.length ≤ 1048576) (hok : ∀ j, j < l.length → fileOk l j = true) : ∀ (M a b : Nat), b - a ≤ M → a ≤ b → b ≤ l.length → (∀ i, i < a → cmpT (nm l i) key < 0) → (∀ i, b ≤ i → i < l.length → ¬ cmpT (nm l i) key < 0) →
    ∃ p, foundAt l key p ∧ Ev (fun k => impl_File_string.l0 k l key (l.length : Int) (a : Int) (b : Int)) ((p : Int), decide (p < l.length ∧ cmpT (nm l p) key = 0)) := by
  intro M
  induction M using Nat.strongRecOn with
  | ind M ih =>
    intro a b hM hab hb hA hB
    by_cases hlt : a < b
    · have hm : wrap64 ((IntKind.u64.wrap (wrap64 ((a : Int) + b))) / 2) = (((a + b) / 2 : Nat) : Int) := by
        rw [w64 (n := (a : Int) + b) (by omega) (by omega), wrap_u64, w64 (by omega) (by omega)]; omega
      by_cases hc : cmpT (nm l ((a + b) / 2)) key < 0
      · obtain ⟨p, hp, he⟩ := ih (b - ((a + b) / 2 + 1)) (by omega) ((a + b) / 2 + 1) b (by omega) (by omega) hb (fun i hi => by
          by_cases e : i = (a + b) / 2
          · rw [e]; exact hc
          · exact cmp_down l key hok (show i < (a + b) / 2 by omega) (by omega) (by omega)) hB
        refine ⟨p, hp, Ev_succ ?_⟩
        simp only [impl_File_string.l0]
        simp only [if_pos (show (a : Int) < (b : Int) by omega), hm, if_pos (show 0 ≤ (((a + b) / 2 : Nat) : Int) by omega), if_pos (show (((a + b) / 2 : Nat) : Int) < (l.length : Int) by omega)]
        refine Ev.bind (a := cmpT (nm l ((a + b) / 2)) key) (Ev_some rfl) ?_
        simp only [if_pos hc]
        rw [w64 (by omega) (by omega)]
        exact he
      · obtain ⟨p, hp, he⟩ := ih ((a + b) / 2 - a) (by omega) a ((a + b) / 2) (by omega) (by omega) (by omega) hA (fun i h1 h2 h3 => by
          by_cases e : i = (a + b) / 2
          · rw [e] at h3; exact hc h3
          · exact hc (cmp_down l key hok (show (a + b) / 2 < i by omega) h2 (by omega)))
        refine ⟨p, hp, Ev_succ ?_⟩
        simp only [impl_File_string.l0]
        simp only [if_pos (show (a : Int) < (b : Int) by omega), hm, if_pos (show 0 ≤ (((a + b) / 2 : Nat) : Int) by omega), if_pos (show (((a + b) / 2 : Nat) : Int) < (l.length : Int) by omega)]
        refine Ev.bind (a := cmpT (nm l ((a + b) / 2)) key) (Ev_some rfl) ?_
        simp only [if_neg hc]
        exact he
    · obtain rfl : a = b := by omega
      refine ⟨a, ⟨hb, hA, hB⟩, Ev_succ ?_⟩
      simp only [impl_File_string.l0]
      simp only [if_neg (show ¬ (a : Int) < (a : Int) by omega)]
      by_cases h2 : a < l.length
      · simp only [if_pos (show (a : Int) < (l.length : Int) by omega), if_pos (show 0 ≤ (a : Int) by omega)]
        refine Ev.bind (a := cmpT (nm l a) key) (Ev_some rfl) ?_
        exact Ev_cast (Ev.now _) (by simp only [h2, true_and]; rfl)
      · simp only [if_neg (show ¬ (a : Int) < (l.length : Int) by omega)]
        exact Ev_cast (Ev.now _) (by simp [h2])
theorem at_ev (n : Int) (l : List S97) (key : ByteArray) (hl : l.length ≤ 1048576) (hok : ∀ j, j < l.length → fileOk l j = true) (p : Nat) (hp : foundAt l key p) :
    Ev (fun k => spec_l2At.f k n l key) (if p < l.length ∧ cmpT (nm l p) key = 0 then (p : Int) else -1) := by
  have eqz : ∀ i, i < l.length → ((nm l i).toList = key.toList ↔ (i = p ∧ cmpT (nm l p) key = 0)) := by
    intro i hi
    constructor
    · intro h
      have h0 := (cmpT_zero _ _).2 h
      have h1 : ¬ i < p := fun h2 => by have := hp.2.1 i h2; omega
      have h2 : ¬ p < i := fun h3 => hp.2.2 p (Nat.le_refl _) (by omega) (cmp_down l key hok h3 hi (by omega))
      obtain rfl : i = p := by omega
      exact ⟨rfl, h0⟩
    · rintro ⟨rfl, h⟩
      exact (cmpT_zero _ _).1 h
  have loop : ∀ (d i : Nat), l.length - i = d → i ≤ l.length → (∀ j, j < i → ¬ (j = p ∧ cmpT (nm l p) key = 0)) → Ev (fun k => spec_l2At.l0 k key l (l.length : Int) (i : Int)) (if p < l.length ∧ cmpT (nm l p) key = 0 then (p : Int) else -1) := by
    intro d
    induction d with
    | zero =>
      intro i hd hi hn
      refine Ev_succ ?_
      simp only [spec_l2At.l0]
      simp only [if_neg (show ¬ (i : Int) < (l.length : Int) by omega)]
      exact Ev_cast (Ev.now _) (by rw [if_neg (fun h => hn p (by omega) ⟨rfl, h.2⟩)])
    | succ d ih =>
      intro i hd hi hn
      refine Ev_succ ?_
      simp only [spec_l2At.l0]
      simp only [if_pos (show (i : Int) < (l.length : Int) by omega), if_pos (show 0 ≤ (i : Int) by omega)]
      by_cases he : (nm l i).toList = key.toList
      · have h2 := (eqz i (by omega)).1 he
        unfold nm at he
        simp only [if_pos he]
        exact Ev_cast (Ev.now _) (by rw [if_pos ⟨by omega, h2.2⟩, h2.1])
      · have h2 := fun h => he ((eqz i (by omega)).2 h)
        unfold nm at he
        simp only [if_neg he]
        rw [w64 (by omega) (by omega)]
        refine ih (i + 1) (by omega) (by omega) (fun j hj => ?_)
        by_cases e : j = i
        · rw [e]; exact h2
        · exact hn j (by omega)
  unfold spec_l2At.f
  exact loop l.length 0 (by omega) (by omega) (fun j hj => by omega)
/-! ### SyncFile -/
theorem l2Own_ev (n : Int) (l : List S97) (hl : l.length ≤ 1048576) (hs : ∀ x ∈ l, x.f1.length ≤ 1048576) : Ev (fun k => spec_l2Own.f k n l) (n, l) := by
  have loop : ∀ (d i : Nat) (acc : List S97), l.length - i = d → i ≤ l.length → acc.length = i → Ev (fun k => spec_l2Own.l0 k acc l (l.length : Int) (i : Int) n l) (n, acc ++ l.drop i) := by
    intro d
    induction d with
    | zero =>
      intro i acc hd hi ha
      refine Ev_succ ?_
      simp only [spec_l2Own.l0]
      simp only [if_neg (show ¬ (i : Int) < (l.length : Int) by omega)]
      exact Ev_cast (Ev.now _) (by rw [List.drop_eq_nil_of_le (by omega)]; simp)
    | succ d ih =>
      intro i acc hd hi ha
      refine Ev_succ ?_
      have hx := hs (l[i]'(by omega)) (List.getElem_mem _)
      simp only [spec_l2Own.l0, Option.bind_some]
      simp only [if_pos (show (i : Int) < (l.length : Int) by omega), if_pos (show 0 ≤ (i : Int) by omega)]
      rw [rd84_lt (by omega), w64 (by omega) (by omega)]
      simp only [List.nil_append, if_pos (show ([] : List Int).length + (l[i]'(by omega)).f1.length < 140737488355328 by simp only [List.length_nil]; omega), if_pos (show acc.length < 2932031007402 by omega)]
      refine Ev_cast (ih (i + 1) _ (by omega) (by omega) (by simp [ha])) ?_
      rw [drop_cons (l := l) (i := i) (by omega), List.append_assoc]
      rfl
  unfold spec_l2Own.f
  exact Ev_cast (loop l.length 0 [] (by omega) (by omega) rfl) (by simp)
theorem cloned_ev (n : Int) (l : List S97) (hl : l.length ≤ 1048576) (hs : ∀ x ∈ l, x.f1.length ≤ 1048576) : Ev (fun k => impl_Files_cloned.f k n l) (n, l) := by
  have loop : ∀ (d i : Nat) (acc : List S97), l.length - i = d → i ≤ l.length → acc.length = i → Ev (fun k => impl_Files_cloned.l0 k l (l.length : Int) (i : Int) n acc) (n, acc ++ l.drop i) := by
    intro d
    induction d with
    | zero =>
      intro i acc hd hi ha
      refine Ev_succ ?_
      simp only [impl_Files_cloned.l0]
      simp only [if_neg (show ¬ (i : Int) < (l.length : Int) by omega)]
      exact Ev_cast (Ev.now _) (by rw [List.drop_eq_nil_of_le (by omega)]; simp)
    | succ d ih =>
      intro i acc hd hi ha
      refine Ev_succ ?_
      have hx := hs (l[i]'(by omega)) (List.getElem_mem _)
      simp only [impl_Files_cloned.l0]
      simp only [if_pos (show (i : Int) < (l.length : Int) by omega), if_pos (show 0 ≤ (i : Int) by omega)]
      rw [rd84_lt (by omega), w64 (by omega) (by omega)]
      refine Ev.bind (Ev_some (by unfold slices_Clone_byte_byte.f; rw [if_pos (by omega)])) ?_
      simp only [if_pos (show acc.length < 2932031007402 by omega)]
      refine Ev_cast (ih (i + 1) _ (by omega) (by omega) (by simp [ha])) ?_
      rw [drop_cons (l := l) (i := i) (by omega), List.append_assoc]
      rfl
  unfold impl_Files_cloned.f
  exact Ev_cast (loop l.length 0 [] (by omega) (by omega) rfl) (by simp)
theorem contains_ev (key : ByteArray) (hk : key.size ≤ 9223372036854775807) : Ev (fun k => slices_ContainsFunc_string_string.f k [key] ()) (!(isFile key)) := by
  have he : impl_changed_1.f key = some (!(isFile key)) := by unfold impl_changed_1.f; rw [impl_isFileName_eq key hk, Option.bind_some]
  unfold slices_ContainsFunc_string_string.f slices_IndexFunc_string_string.f
  have h0 : rdOf ByteArray.empty [key] 0 = key := rfl
  have hlt : (0 : Int) < (([key] : List ByteArray).length : Int) := by simp
  have hge : ¬ wrap64 (0 + 1) < (([key] : List ByteArray).length : Int) := by rw [w64 (by omega) (by omega)]; simp
  cases hf : isFile key with
  | false =>
    rw [hf] at he
    refine Ev.bind (a := (0 : Int)) (Ev_succ ?_) (Ev.now _)
    simp only [slices_IndexFunc_string_string.l0]
    simp only [if_pos hlt, if_pos (show (0 : Int) ≤ 0 by omega), h0, he, Option.bind_some, Bool.not_false, if_true]
    exact Ev.now _
  | true =>
    rw [hf] at he
    refine Ev.bind (a := (-1 : Int)) (Ev_succ ?_) (Ev.now _)
    simp only [slices_IndexFunc_string_string.l0]
    simp only [if_pos hlt, if_pos (show (0 : Int) ≤ 0 by omega), h0, he, Option.bind_some, Bool.not_true, Bool.false_eq_true, if_false]
    refine Ev_succ ?_
    simp only [slices_IndexFunc_string_string.l0]
    simp only [if_neg hge]
    exact Ev.now _
theorem sync_both (n : Int) (l : List S97) (key : ByteArray) (hk : key.size ≤ 9223372036854775807) (hl : l.length ≤ 1048576) (hs : ∀ x ∈ l, x.f0.size ≤ 1048576 ∧ x.f1.length ≤ 1048576) :
    ∃ r : Int × List S97 × Int, Ev (fun k => spec_SyncFile.f k n l key) r ∧ Ev (fun k => impl_SyncFile.f k n l key) r ∧ r.2.1.length ≤ 1048576 ∧ ∀ x ∈ r.2.1, x.f1.length ≤ 1048576 := by
  have h1 := spec_GoodFiles_ev n l hl hs
  have h2 := impl_GoodFiles_ev n l hl hs
  unfold spec_SyncFile.f impl_SyncFile.f
  cases hg : goodFiles n l with
  | false =>
    rw [hg] at h1 h2
    refine ⟨(0, [], 1), Ev.bind h1 ?_, Ev.bind h2 ?_, by simp, by simp⟩
    · simp only [Bool.false_eq_true, if_false]; exact Ev.now _
    · simp only [Bool.false_eq_true, if_false]; exact Ev.now _
  | true =>
    rw [hg] at h1 h2
    have hnm := spec_l2Name_ev key
    have hcn := contains_ev key hk
    cases hf : isFile key with
    | false =>
      rw [hf] at hnm hcn
      refine ⟨(0, [], 1), Ev.bind h1 ?_, Ev.bind h2 ?_, by simp, by simp⟩
      · simp only [if_true]
        refine Ev.bind hnm ?_
        simp only [Bool.false_eq_true, if_false]
        exact Ev.now _
      · simp only [if_true]
        refine Ev.bind hcn ?_
        simp only [Bool.not_false, if_true]
        exact Ev.now _
    | true =>
      rw [hf] at hnm hcn
      unfold goodFiles at hg
      simp only [Bool.and_eq_true, decide_eq_true_eq] at hg
      have hs1 : ∀ x ∈ l, x.f1.length ≤ 1048576 := fun x hx => (hs x hx).2
      have hok : ∀ j, j < l.length → fileOk l j = true := fun j hj => files_rise l l.length 0 hg.2 j (by omega) (by omega)
      obtain ⟨p, hp, hfe⟩ := find_ev l key hl hok l.length 0 l.length (by omega) (by omega) (by omega) (fun i hi => by omega) (fun i h1 h2 => by omega)
      have hat := at_ev n l key hl hok p hp
      by_cases hc : p < l.length ∧ cmpT (nm l p) key = 0
      · rw [if_pos hc] at hat
        rw [decide_eq_true hc] at hfe
        refine ⟨(n, l.set p ⟨(l.getD p z97).f0, (l.getD p z97).f1, ((l.getD p z97).f1.length : Int)⟩, 0), Ev.bind h1 ?_, Ev.bind h2 ?_, by simpa using hl, fun x hx => ?_⟩
        · simp only [if_true]
          refine Ev.bind hnm ?_
          simp only [if_true]
          refine Ev.bind (l2Own_ev n l hl hs1) ?_
          refine Ev.bind (a := ((0 : Int), l.set p ⟨(l.getD p z97).f0, (l.getD p z97).f1, ((l.getD p z97).f1.length : Int)⟩)) ?_ (Ev.now _)
          unfold spec_SyncFile.sy
          refine Ev.bind hat ?_
          simp only [if_neg (show ¬ (p : Int) < 0 by omega)]
          unfold spec_SyncFile.st
          rw [if_pos ⟨by omega, by omega⟩, Int.toNat_natCast]
          exact Ev.now _
        · simp only [if_true]
          refine Ev.bind hcn ?_
          simp only [Bool.not_true, Bool.false_eq_true, if_false]
          refine Ev.bind (cloned_ev n l hl hs1) ?_
          refine Ev.bind (a := ((0 : Int), l.set p ⟨(l.getD p z97).f0, (l.getD p z97).f1, ((l.getD p z97).f1.length : Int)⟩)) ?_ (Ev.now _)
          unfold impl_SyncFile.sy
          refine Ev.bind (a := ((p : Int), true)) ?_ ?_
          · unfold impl_Files_find.f impl_File_string.f
            exact Ev.bind hfe (Ev.now _)
          · simp only [if_true]
            unfold impl_SyncFile.st
            rw [if_pos ⟨by omega, by omega⟩, Int.toNat_natCast]
            exact Ev.now _
        · rcases List.mem_or_eq_of_mem_set hx with h | h
          · exact hs1 x h
          · rw [h]
            have : l.getD p z97 = l[p]'hc.1 := by rw [List.getD_eq_getElem?_getD, List.getElem?_eq_getElem hc.1]; rfl
            rw [this]
            exact hs1 (l[p]'hc.1) (List.getElem_mem _)
      · rw [if_neg hc] at hat
        rw [decide_eq_false hc] at hfe
        refine ⟨(n, l, 2), Ev.bind h1 ?_, Ev.bind h2 ?_, hl, hs1⟩
        · simp only [if_true]
          refine Ev.bind hnm ?_
          simp only [if_true]
          refine Ev.bind (l2Own_ev n l hl hs1) ?_
          refine Ev.bind (a := ((2 : Int), l)) ?_ (Ev.now _)
          unfold spec_SyncFile.sy
          refine Ev.bind hat ?_
          simp only [if_pos (show (-1 : Int) < 0 by omega)]
          exact Ev.now _
        · simp only [if_true]
          refine Ev.bind hcn ?_
          simp only [Bool.not_true, Bool.false_eq_true, if_false]
          refine Ev.bind (cloned_ev n l hl hs1) ?_
          refine Ev.bind (a := ((2 : Int), l)) ?_ (Ev.now _)
          unfold impl_SyncFile.sy
          refine Ev.bind (a := ((p : Int), false)) ?_ ?_
          · unfold impl_Files_find.f impl_File_string.f
            exact Ev.bind hfe (Ev.now _)
          · simp only [Bool.false_eq_true, if_false]
            exact Ev.now _
/-- marks that stand still -/
def markedF : Nat → List S97 → Prop
  | _, [] => True
  | a, x :: t => Ev (fun k => laws_markText.f k (a : Int)) x.f0 ∧ ∃ n : Nat, n ≤ 1048576 ∧ x.f1 = markedFrom ((a + 1 : Nat) : Int) n ∧ x.f2 = ((a + 1 + n : Nat) : Int) ∧ markedF (a + 1 + n + 1) t
theorem markFileS_ev : ∀ (l : List S97) (a : Nat), (∀ x ∈ l, x.f1.length ≤ 1048576) → a + 2097152 * l.length ≤ 10000000000000 → ∃ (b : Nat) (L : List S97), Ev (fun k => laws_markFileS.l k l (a : Int)) ((b : Int), L) ∧ L.length = l.length ∧ markedF a L ∧ b ≤ a + 2097152 * l.length ∧ ∀ (M : List S97) (i : Nat), M.drop i = L → M.length ≤ 1048576 → Ev (fun k => laws_heldFileS.l0 k M (a : Int) (i : Int)) (b : Int)
  | [], a, _, _ => by
    refine ⟨a, [], Ev.now _, rfl, trivial, by simp, fun M i hM hm => Ev_succ ?_⟩
    have hi : M.length ≤ i := List.drop_eq_nil_iff.1 hM
    simp only [laws_heldFileS.l0]
    simp only [if_neg (show ¬ (i : Int) < (M.length : Int) by omega)]
    exact Ev.now _
  | x :: t, a, hs, h1 => by
    rw [List.length_cons] at h1
    have hx := hs x (List.mem_cons_self ..)
    obtain ⟨t1, ht1⟩ := markText_ev a (by omega)
    obtain ⟨b, L, e1, e2, e3, e4, e5⟩ := markFileS_ev t (a + 1 + x.f1.length + 1) (fun y hy => hs y (List.mem_cons_of_mem _ hy)) (by omega)
    have hb := markByteS_ev x.f1 ((a + 1 : Nat) : Int) (by omega) (by omega) (by omega)
    have hh := heldByteS_ev ((a + 1 : Nat) : Int) x.f1.length (by omega) (by omega) (by omega)
    have ea : wrap64 ((a : Int) + 1) = ((a + 1 : Nat) : Int) := by rw [w64 (by omega) (by omega)]; omega
    have eb : wrap64 (((a + 1 : Nat) : Int) + (x.f1.length : Int) + 1) = ((a + 1 + x.f1.length + 1 : Nat) : Int) := by rw [w64 (by omega) (by omega)]; omega
    refine ⟨b, ⟨t1, markedFrom ((a + 1 : Nat) : Int) x.f1.length, ((a + 1 + x.f1.length : Nat) : Int)⟩ :: L, ?_, by simp [e2], ⟨ht1, x.f1.length, hx, rfl, rfl, e3⟩, by rw [List.length_cons]; omega, fun M i hM hm => ?_⟩
    · simp only [laws_markFileS.l]
      refine Ev.bind ht1 ?_
      rw [ea]
      refine Ev.bind hb ?_
      simp only [eb]
      exact Ev.bind e1 (Ev_cast (Ev.now _) (by rw [show (((a + 1 : Nat) : Int) + (x.f1.length : Int)) = ((a + 1 + x.f1.length : Nat) : Int) by omega]))
    · have hi : i < M.length := by
        have := congrArg List.length hM
        rw [List.length_drop, List.length_cons] at this
        omega
      rw [drop_cons (l := M) (i := i) hi] at hM
      injection hM with hM1 hM2
      refine Ev_succ ?_
      simp only [laws_heldFileS.l0]
      simp only [if_pos (show (i : Int) < (M.length : Int) by omega), if_pos (show 0 ≤ (i : Int) by omega)]
      rw [rd84_lt hi, hM1, ea, w64 (n := (i : Int) + 1) (by omega) (by omega)]
      refine Ev.bind ht1 ?_
      simp only [if_true]
      refine Ev.bind hh ?_
      simp only [if_neg (show ¬ ((a + 1 : Nat) : Int) + (x.f1.length : Int) < 0 by omega), eb]
      rw [show (((a + 1 : Nat) : Int) + (x.f1.length : Int)) = ((a + 1 + x.f1.length : Nat) : Int) by omega]
      simp only [if_true]
      have := e5 M (i + 1) hM2 hm
      rw [show ((i + 1 : Nat) : Int) = (i : Int) + 1 by omega] at this
      exact this
theorem markFiles_both (n q : Int) (l : List S97) (hl : l.length ≤ 1048576) (hs : ∀ x ∈ l, x.f1.length ≤ 1048576) : ∃ p : Int × List S97, Ev (fun k => laws_markFiles.f k n l 1) p ∧ 0 ≤ p.1 ∧ Ev (fun k => laws_heldFiles.f k q p.2 1) p.1 := by
  obtain ⟨b, L, e1, e2, _, e4, e5⟩ := markFileS_ev l 1 hs (by omega)
  refine ⟨((b : Int), L), ?_, by simp only; omega, ?_⟩
  · unfold laws_markFiles.f laws_markFileS.f
    simp only [if_pos (show l.length ≤ 1152921504606846976 by omega)]
    exact e1
  · unfold laws_heldFiles.f laws_heldFileS.f
    refine Ev.bind (e5 L 0 rfl (by omega)) ?_
    simp only [if_neg (show ¬ (b : Int) < 0 by omega)]
    exact Ev.now _
theorem FnExactSyncFile : laws_FnExactSyncFile.Pure := by
  intro n l key h0 h1 h2
  have hb : ∀ x ∈ l, x.f0.size ≤ 9223372036854775807 ∧ x.f1.length ≤ 9223372036854775807 := by
    intro x hx
    have g := h1.2 x hx
    have g1 := g.1
    have g2 := g.2.1.1
    unfold maxLen at g1 g2
    omega
  have hk : key.size ≤ 9223372036854775807 := by unfold maxLen at h2; omega
  refine Ev.rounds ?_
  unfold laws_FnExactSyncFile.f
  by_cases hbig : (1048576 : Int) < (key.size : Int)
  · simp only [if_pos hbig]; exact Ev.now _
  simp only [if_neg hbig]
  obtain ⟨z, hz, hz2⟩ := szFiles_ev n l (by have := h1.1; unfold maxLen at this; omega) hb
  refine Ev.bind hz ?_
  by_cases hh : z < 0
  · simp only [if_pos hh]; exact Ev.now _
  obtain ⟨hl, hs⟩ := hz2.resolve_left hh
  have hml : (l.map toF).length ≤ 1048576 := by simpa using hl
  have hms : ∀ x ∈ l.map toF, x.f0.size ≤ 1048576 ∧ x.f1.length ≤ 1048576 := by
    intro x hx
    obtain ⟨y, hy, rfl⟩ := List.mem_map.1 hx
    exact hs y hy
  have hs1 : ∀ x ∈ l, x.f1.length ≤ 1048576 := fun x hx => (hs x hx).2
  simp only [if_neg hh]
  have ht := toFiles_ev n l hl hs1
  obtain ⟨r, e1, e2, hr1, hr2⟩ := sync_both n _ key hk hml hms
  have hEq := eqFiles_same r.1 r.2.1 hr1 hr2
  have hEq2 := eqFiles_same n _ hml (fun x hx => (hms x hx).2)
  obtain ⟨p, m1, m2, m3⟩ := markFiles_both n n _ hml (fun x hx => (hms x hx).2)
  obtain ⟨p', m1', m2', m3'⟩ := markFiles_both r.1 r.1 r.2.1 hr1 hr2
  refine Ev.bind ht (Ev.bind e1 (Ev.bind ht (Ev.bind e2 (Ev.bind hEq (Ev.bind ht (Ev.bind hEq2 (Ev.bind m1 ?_)))))))
  refine Ev.bind hEq (Ev.bind m1' (Ev.bind m3' (Ev.bind ht (Ev.bind e2 (Ev.bind hEq (Ev.bind m3' ?_))))))
  exact Ev_some (if_pos ⟨rfl, rfl, rfl, by omega, rfl, rfl, by omega, rfl, rfl, rfl, by omega, rfl⟩)
end Go.Proofs.YtodblpadklheaaaDoor.Pure
