/- The law FnExactFilesOf answers true, for all versions. -/
import Derived.Test.YtefconminjiapaaPFnExactFilesOfx9
set_option linter.unusedVariables false
set_option linter.unusedSimpArgs false
namespace Go.Proofs.Ytefconminjiapaa.Pure
open Go.RowKit Go.Proofs.Ytefconminjiapaa.PFnExactFilesOf Go.Proofs.YtefconminjiapaaW Go.Proofs.YtefconminjiapaaW.PrintWords Go.Proofs.YtefconminjiapaaW.PrintLast Go.Proofs.YtefconminjiapaaW.PrintMore
/-! ### base: rounds, numbers -/
theorem Ev_succ {α : Type} {g : Nat → Option α} {r : α} (h : Ev (fun k => g (k + 1)) r) : Ev g r := Ev.step (fun _ => rfl) h
theorem Ev_some {α : Type} {o : Option α} {r : α} (h : o = some r) : Ev (fun _ => o) r := ⟨0, fun _ _ => h⟩
theorem Ev_cast {α : Type} {g : Nat → Option α} {r q : α} (h : Ev g r) (e : r = q) : Ev g q := e ▸ h
theorem w64 {n : Int} (h : -9223372036854775808 ≤ n) (h' : n ≤ 9223372036854775807) : wrap64 n = n := by unfold wrap64; omega
theorem wf_i64 {n : Int} (h : (Lit.int .i64 n).wf = true) : -9223372036854775808 ≤ n ∧ n ≤ 9223372036854775807 := by
  simp only [Lit.wf, IntKind.min, IntKind.max, IntKind.signed, IntKind.bits, Bool.and_eq_true, decide_eq_true_eq, if_true] at h
  omega
theorem wf_u64 {n : Int} (h : (Lit.int .u64 n).wf = true) : 0 ≤ n ∧ n ≤ 18446744073709551615 := by
  simp only [Lit.wf, IntKind.min, IntKind.max, IntKind.signed, IntKind.bits, Bool.and_eq_true, decide_eq_true_eq, if_true] at h
  simp at h
  omega
theorem wf_u8 {n : Int} (h : (Lit.int .u8 n).wf = true) : 0 ≤ n ∧ n ≤ 255 := by
  simp only [Lit.wf, IntKind.min, IntKind.max, IntKind.signed, IntKind.bits, Bool.and_eq_true, decide_eq_true_eq, if_true] at h
  simp at h
  omega
theorem wrap_u64 (n : Int) : IntKind.u64.wrap n = n % 18446744073709551616 := by simp [IntKind.wrap, IntKind.bits, IntKind.signed]
theorem wrap_u32 (n : Int) : IntKind.u32.wrap n = n % 4294967296 := by simp [IntKind.wrap, IntKind.bits, IntKind.signed]
/-- A list of bytes. -/
def Bytes (l : List Int) : Prop := ∀ x ∈ l, 0 ≤ x ∧ x ≤ 255
theorem Bytes.wf {l : List Int} (h : ∀ x ∈ l, (Lit.int .u8 x).wf = true) : Bytes l := fun x hx => wf_u8 (h x hx)
theorem Bytes.nil : Bytes [] := fun x hx => by cases hx
theorem Bytes.app {a b : List Int} (h : Bytes a) (k : Bytes b) : Bytes (a ++ b) := fun x hx => by
  rcases List.mem_append.1 hx with h' | h'
  · exact h x h'
  · exact k x h'
theorem Bytes.one {x : Int} (h : 0 ≤ x) (h' : x ≤ 255) : Bytes [x] := fun y hy => (List.mem_singleton.1 hy) ▸ ⟨h, h'⟩
theorem Bytes.sub {a b : List Int} (h : Bytes a) (k : ∀ x ∈ b, x ∈ a) : Bytes b := fun x hx => h x (k x hx)
theorem Bytes.take {a : List Int} (h : Bytes a) (n : Nat) : Bytes (a.take n) := h.sub fun _ hx => List.mem_of_mem_take hx
theorem Bytes.drop {a : List Int} (h : Bytes a) (n : Nat) : Bytes (a.drop n) := h.sub fun _ hx => List.mem_of_mem_drop hx
theorem rd_lt {l : List Int} {i : Nat} (h : i < l.length) : rd l (i : Int) = l[i] := by simp [rd, h]
theorem Bytes.rd {l : List Int} (h : Bytes l) (i : Int) : 0 ≤ rd l i ∧ rd l i ≤ 255 := by
  unfold PrintWords.rd
  by_cases hi : i.toNat < l.length
  · rw [List.getD_eq_getElem?_getD, List.getElem?_eq_getElem hi]; exact h _ (List.getElem_mem hi)
  · rw [List.getD_eq_getElem?_getD, List.getElem?_eq_none (by omega)]; simp
theorem drop_cons {α : Type} {l : List α} {i : Nat} (h : i < l.length) : l.drop i = l[i] :: l.drop (i + 1) := List.drop_eq_getElem_cons h
theorem within_eq (a b c : Int) : impl_within.f a b c = some (decide (b ≤ a ∧ a ≤ c)) := by
  unfold impl_within.f
  by_cases h : a ≥ b
  · rw [if_pos h]; simp; intro; omega
  · rw [if_neg h]; simp; intro; omega
theorem l1In_eq (a b c : Int) : spec_l1In.f a b c = some (decide (b ≤ a ∧ a ≤ c)) := by
  unfold spec_l1In.f
  by_cases h : a ≥ b
  · rw [if_pos h]; simp; intro; omega
  · rw [if_neg h]; simp; intro; omega
/-! ### the laws' own words on bytes -/
theorem eqIntS_l0 (a b : List Int) (hl : a.length = b.length) (hb : a.length ≤ 4611686018427387904) :
    ∀ (d i : Nat), a.length - i = d → i ≤ a.length → Ev (fun k => laws_eqIntS.l0 k a b (i : Int)) (decide (a.drop i = b.drop i)) := by
  intro d
  induction d with
  | zero =>
    intro i hd hi
    refine Ev_succ ?_
    simp only [laws_eqIntS.l0]
    simp only [if_neg (show ¬ (i : Int) < (a.length : Int) by omega)]
    exact Ev_cast (Ev.now _) (by rw [List.drop_eq_nil_of_le (by omega), List.drop_eq_nil_of_le (by omega)]; simp)
  | succ d ih =>
    intro i hd hi
    refine Ev_succ ?_
    simp only [laws_eqIntS.l0]
    simp only [if_pos (show (i : Int) < (a.length : Int) by omega), if_pos (show 0 ≤ (i : Int) by omega), if_pos (show (i : Int) < (b.length : Int) by omega)]
    rw [rd_lt (by omega), rd_lt (by omega), w64 (by omega) (by omega), drop_cons (l := a) (by omega), drop_cons (l := b) (i := i) (by omega)]
    by_cases e : a[i]'(by omega) = b[i]'(by omega)
    · simp only [if_pos e]
      exact Ev_cast (ih (i + 1) (by omega) (by omega)) (decide_eq_decide.2 (by rw [List.cons.injEq]; exact ⟨fun h => ⟨e, h⟩, fun h => h.2⟩))
    · simp only [if_neg e]
      exact Ev_cast (Ev.now _) (Eq.symm (decide_eq_false (by rw [List.cons.injEq]; exact fun h => e h.1)))
theorem eqIntS_ev (a b : List Int) (ha : a.length ≤ 4611686018427387904) : Ev (fun k => laws_eqIntS.f k a b) (decide (a = b)) := by
  unfold laws_eqIntS.f
  by_cases h : a.length = b.length
  · simp only [if_pos (show (a.length : Int) = (b.length : Int) by omega)]
    exact eqIntS_l0 a b h ha a.length 0 (by omega) (by omega)
  · simp only [if_neg (show ¬ (a.length : Int) = (b.length : Int) by omega)]
    exact Ev_cast (Ev.now _) (by simp; intro e; exact h (by rw [e]))
theorem eqIntS_same (a b : List Int) (ha : a.length ≤ 4611686018427387904) (e : a = b) : Ev (fun k => laws_eqIntS.f k a b) true := Ev_cast (eqIntS_ev a b ha) (by simp [e])
/-- What a list of whole numbers reads once it was marked from m on. -/
def imarkedFrom (m : Int) : Nat → List Int
  | 0 => []
  | n + 1 => m :: imarkedFrom (m + 1) n
theorem imarkedFrom_length (n : Nat) : ∀ m, (imarkedFrom m n).length = n := by
  induction n with
  | zero => intro m; rfl
  | succ n ih => intro m; simp [imarkedFrom, ih]
theorem markIntS_l0 (m : Int) : ∀ (d i : Nat) (l : List Int), l.length - i = d → i ≤ l.length → l.length ≤ 1152921504606846976 → 0 ≤ m → m ≤ 1152921504606846976 + i →
    Ev (fun k => laws_markIntS.l0 k l m (i : Int)) (m + d, l.take i ++ imarkedFrom m d) := by
  intro d
  induction d generalizing m with
  | zero =>
    intro i l hd hi hl h0 hm
    refine Ev_succ ?_
    simp only [laws_markIntS.l0]
    simp only [if_neg (show ¬ (i : Int) < (l.length : Int) by omega)]
    exact Ev_cast (Ev.now _) (by rw [List.take_of_length_le (by omega)]; simp [imarkedFrom])
  | succ d ih =>
    intro i l hd hi hl h0 hm
    refine Ev_succ ?_
    simp only [laws_markIntS.l0]
    simp only [if_pos (show (i : Int) < (l.length : Int) by omega), if_pos (show 0 ≤ (i : Int) by omega)]
    rw [w64 (n := m + 1) (by omega) (by omega), w64 (by omega) (by omega)]
    refine Ev_cast (ih (m + 1) (i + 1) (l.set i (m)) (by simp; omega) (by simp; omega) (by simpa using hl) (by omega) (by omega)) ?_
    refine Prod.ext (by simp; omega) ?_
    show (l.set i (m)).take (i + 1) ++ imarkedFrom (m + 1) d = l.take i ++ imarkedFrom m (d + 1)
    have : (l.set i (m)).take (i + 1) = l.take i ++ [m] := by
      apply List.ext_getElem?
      intro j
      rw [List.getElem?_take, List.getElem?_append, List.getElem?_set]
      have : (l.take i).length = i := by simp; omega
      rw [this]
      by_cases h1 : j < i
      · rw [if_pos (by omega), if_neg (by omega), if_pos h1, List.getElem?_take, if_pos h1]
      · by_cases h2 : j = i
        · subst h2; simp; omega
        · rw [if_neg (by omega), if_neg h1]; simp; omega
    rw [this]; simp [imarkedFrom]
theorem markIntS_ev (l : List Int) (m : Int) (hl : l.length ≤ 1152921504606846976) (h0 : 0 ≤ m) (hm : m ≤ 1152921504606846976) : Ev (fun k => laws_markIntS.f k l m) (m + l.length, imarkedFrom m l.length) := by
  unfold laws_markIntS.f
  exact Ev_cast (markIntS_l0 m l.length 0 l (by omega) (by omega) hl h0 (by omega)) (by simp)
theorem heldIntS_l0 : ∀ (n : Nat) (m : Int) (i : Nat) (p : List Int), p.length = i → i + n ≤ 1152921504606846976 → 0 ≤ m → m ≤ 1152921504606846976 + i →
    Ev (fun k => laws_heldIntS.l0 k (p ++ imarkedFrom m n) m (i : Int)) (m + n) := by
  intro n
  induction n with
  | zero =>
    intro m i p hp hl h0 hm
    refine Ev_succ ?_
    simp only [laws_heldIntS.l0]
    simp only [imarkedFrom, List.append_nil, if_neg (show ¬ (i : Int) < (p.length : Int) by omega)]
    exact Ev_cast (Ev.now _) (by simp)
  | succ n ih =>
    intro m i p hp hl h0 hm
    refine Ev_succ ?_
    simp only [laws_heldIntS.l0]
    have hlen : (p ++ imarkedFrom m (n + 1)).length = i + n + 1 := by rw [List.length_append, imarkedFrom_length]; omega
    have hr : rd (p ++ imarkedFrom m (n + 1)) (i : Int) = m := by
      rw [rd_lt (by omega)]; simp [imarkedFrom, hp]
    simp only [if_pos (show (i : Int) < ((p ++ imarkedFrom m (n + 1)).length : Int) by omega), if_pos (show 0 ≤ (i : Int) by omega), hr, if_true]
    rw [w64 (n := m + 1) (by omega) (by omega), w64 (by omega) (by omega)]
    have e : p ++ imarkedFrom m (n + 1) = (p ++ [m]) ++ imarkedFrom (m + 1) n := by simp [imarkedFrom]
    rw [e]
    exact Ev_cast (ih (m + 1) (i + 1) (p ++ [m]) (by simp [hp]) (by omega) (by omega) (by omega)) (by omega)
theorem heldIntS_ev (m : Int) (n : Nat) (hl : n ≤ 1152921504606846976) (h0 : 0 ≤ m) (hm : m ≤ 1152921504606846976) : Ev (fun k => laws_heldIntS.f k (imarkedFrom m n) m) (m + n) := by
  unfold laws_heldIntS.f
  exact heldIntS_l0 n m 0 [] rfl (by omega) h0 (by omega)
/-! ### marks in texts -/
theorem markText_l0 : ∀ (n : Nat) (s : ByteArray), s.size + n ≤ 4611686018427387904 → ∃ r, Ev (fun k => laws_markText.l0 k (n : Int) s) r := by
  intro n
  induction n using Nat.strongRecOn with
  | ind n ih =>
    intro s h
    by_cases h0 : 0 < n
    · have hsz : ∀ x : Int, (strOfNums [x]).size = 1 := fun x => by simp [strOfNums]; rfl
      obtain ⟨r, hr⟩ := ih (n / 10) (by omega) (strOfNums [(wrap64 (48 + Int.tmod (n : Int) 10)) % 256] ++ s) (by rw [ByteArray.size_append, hsz]; omega)
      refine ⟨r, Ev_succ ?_⟩
      simp only [laws_markText.l0]
      simp only [if_pos (show (n : Int) > 0 by omega), Option.bind_some]
      simp only [hsz, if_pos (show 1 + s.size ≤ 9223372036854775807 by omega)]
      rw [show wrap64 (Int.tdiv (n : Int) 10) = ((n / 10 : Nat) : Int) by rw [Int.tdiv_eq_ediv_of_nonneg (by omega), w64 (by omega) (by omega)]; omega]
      exact hr
    · refine ⟨(⟨#[109]⟩ : ByteArray) ++ s, Ev_succ ?_⟩
      simp only [laws_markText.l0]
      simp only [if_neg (show ¬ (n : Int) > 0 by omega), if_pos (show 1 + s.size ≤ 9223372036854775807 by omega)]
      exact Ev.now _
theorem markText_ev (n : Nat) (h : n ≤ 1152921504606846976) : ∃ r, Ev (fun k => laws_markText.f k (n : Int)) r := by
  unfold laws_markText.f
  by_cases h0 : (n : Int) ≤ 0
  · simp only [if_pos h0]
    exact ⟨_, Ev.now _⟩
  · simp only [if_neg h0]
    exact markText_l0 n _ (by show 0 + n ≤ _; omega)
/-! ### versions: rows of rows of metas -/
theorem rd82_lt {l : List S82} {i : Nat} (h : i < l.length) : rd_T82 l (i : Int) = l[i] := by simp [rd_T82, h]
theorem rd60_lt {l : List S60} {i : Nat} (h : i < l.length) : rd_T60 l (i : Int) = l[i] := by simp [rd_T60, h]
theorem rdL3_lt {l : List (List S82)} {i : Nat} (h : i < l.length) : rd_L3 l (i : Int) = l[i] := by simp [rd_L3, h]
theorem rdL5_lt {l : List (List S60)} {i : Nat} (h : i < l.length) : rd_L5 l (i : Int) = l[i] := by simp [rd_L5, h]
def toM (x : S82) : S60 := ⟨x.f0, x.f1, x.f2, x.f3⟩
theorem szMeta_eq (n : Int) (a b : ByteArray) (m z : Int) (h0 : 0 ≤ z) (h1 : z ≤ 1048576) (ha : a.size ≤ 9223372036854775807) (hb : b.size ≤ 9223372036854775807) :
    ∃ q, laws_szMeta.f n a b m z = some q ∧ (q < 0 ∨ (0 ≤ q ∧ q ≤ z)) := by
  unfold laws_szMeta.f
  rw [w64 (n := z - a.size) (by omega) (by omega)]
  by_cases c1 : z - (a.size : Int) < 0
  · exact ⟨-1, by rw [if_pos c1], .inl (by omega)⟩
  · rw [if_neg c1, w64 (n := z - (a.size : Int) - b.size) (by omega) (by omega)]
    by_cases c2 : z - (a.size : Int) - b.size < 0
    · exact ⟨-1, by rw [if_pos c2], .inl (by omega)⟩
    · exact ⟨_, by rw [if_neg c2], .inr ⟨by omega, by omega⟩⟩
theorem szMetaS_ev (l : List S82) (a0 : Int) (h0 : 0 ≤ a0) (h1 : a0 ≤ 1048576) (hl : l.length ≤ 9223372036854775807) (hs : ∀ x ∈ l, x.f1.size ≤ 9223372036854775807 ∧ x.f2.size ≤ 9223372036854775807) :
    ∃ z, Ev (fun k => laws_szMetaS.f k l a0) z ∧ (z < 0 ∨ (0 ≤ z ∧ z ≤ a0 ∧ l.length ≤ 1048576)) := by
  have loop : ∀ (d i : Nat) (a : Int), l.length - i = d → i ≤ l.length → l.length ≤ 1048576 → 0 ≤ a → a ≤ 1048576 → ∃ z, Ev (fun k => laws_szMetaS.l0 k l a (i : Int)) z ∧ (z < 0 ∨ (0 ≤ z ∧ z ≤ a)) := by
    intro d
    induction d with
    | zero =>
      intro i a hd hi hl2 h0 h1
      refine ⟨a, Ev_succ ?_, .inr ⟨h0, Int.le_refl _⟩⟩
      simp only [laws_szMetaS.l0]
      simp only [if_neg (show ¬ (i : Int) < (l.length : Int) by omega)]
      exact Ev.now _
    | succ d ih =>
      intro i a hd hi hl2 h0 h1
      have hx := hs (l[i]'(by omega)) (List.getElem_mem _)
      obtain ⟨z1, hz1, hz2⟩ := szMeta_eq (l[i]'(by omega)).f0 (l[i]'(by omega)).f1 (l[i]'(by omega)).f2 (l[i]'(by omega)).f3 a h0 h1 hx.1 hx.2
      by_cases hn : z1 < 0
      · refine ⟨-1, Ev_succ ?_, .inl (by omega)⟩
        simp only [laws_szMetaS.l0]
        simp only [if_pos (show (i : Int) < (l.length : Int) by omega), if_pos (show 0 ≤ (i : Int) by omega)]
        rw [rd82_lt (by omega)]
        refine Ev.bind (Ev_some hz1) ?_
        simp only [if_pos hn]
        exact Ev.now _
      · obtain ⟨g0, g1⟩ := hz2.resolve_left hn
        obtain ⟨z, hz, hz3⟩ := ih (i + 1) z1 (by omega) (by omega) hl2 g0 (by omega)
        refine ⟨z, Ev_succ ?_, ?_⟩
        · simp only [laws_szMetaS.l0]
          simp only [if_pos (show (i : Int) < (l.length : Int) by omega), if_pos (show 0 ≤ (i : Int) by omega)]
          rw [rd82_lt (by omega), w64 (n := (i : Int) + 1) (by omega) (by omega)]
          refine Ev.bind (Ev_some hz1) ?_
          simp only [if_neg hn]
          exact hz
        · exact hz3.imp id (fun h => ⟨h.1, by omega⟩)
  unfold laws_szMetaS.f
  rw [w64 (by omega) (by omega)]
  by_cases hn : a0 - (l.length : Int) < 0
  · exact ⟨-1, by simp only [if_pos hn]; exact Ev.now _, .inl (by omega)⟩
  · simp only [if_neg hn]
    obtain ⟨z, hz, hz2⟩ := loop l.length 0 (a0 - l.length) (by omega) (by omega) (by omega) (by omega) (by omega)
    exact ⟨z, hz, hz2.imp id (fun h => ⟨h.1, by omega, by omega⟩)⟩
theorem szVersion_ev (n1 n2 n3 : Int) (l : List (List S82)) (hl : l.length ≤ 9223372036854775807) (hs : ∀ x ∈ l, x.length ≤ 9223372036854775807 ∧ ∀ y ∈ x, y.f1.size ≤ 9223372036854775807 ∧ y.f2.size ≤ 9223372036854775807) :
    ∃ z, Ev (fun k => laws_szVersion.f k n1 n2 n3 l 1048576) z ∧ (z < 0 ∨ (l.length ≤ 1048576 ∧ ∀ x ∈ l, x.length ≤ 1048576)) := by
  have loop : ∀ (d i : Nat) (a : Int), l.length - i = d → i ≤ l.length → l.length ≤ 1048576 → 0 ≤ a → a ≤ 1048576 → ∃ z, Ev (fun k => laws_szMetaSS.l0 k l a (i : Int)) z ∧ (z < 0 ∨ ∀ x ∈ l.drop i, x.length ≤ 1048576) := by
    intro d
    induction d with
    | zero =>
      intro i a hd hi hl2 h0 h1
      refine ⟨a, Ev_succ ?_, .inr (by rw [List.drop_eq_nil_of_le (by omega)]; intro s hs; cases hs)⟩
      simp only [laws_szMetaSS.l0]
      simp only [if_neg (show ¬ (i : Int) < (l.length : Int) by omega)]
      exact Ev.now _
    | succ d ih =>
      intro i a hd hi hl2 h0 h1
      have hx := hs (l[i]'(by omega)) (List.getElem_mem _)
      obtain ⟨z1, hz1, hz2⟩ := szMetaS_ev (l[i]'(by omega)) a h0 h1 hx.1 hx.2
      by_cases hn : z1 < 0
      · refine ⟨-1, Ev_succ ?_, .inl (by omega)⟩
        simp only [laws_szMetaSS.l0]
        simp only [if_pos (show (i : Int) < (l.length : Int) by omega), if_pos (show 0 ≤ (i : Int) by omega)]
        rw [rdL3_lt (by omega)]
        refine Ev.bind hz1 ?_
        simp only [if_pos hn]
        exact Ev.now _
      · obtain ⟨g0, g1, g2⟩ := hz2.resolve_left hn
        obtain ⟨z, hz, hz3⟩ := ih (i + 1) z1 (by omega) (by omega) hl2 g0 (by omega)
        refine ⟨z, Ev_succ ?_, ?_⟩
        · simp only [laws_szMetaSS.l0]
          simp only [if_pos (show (i : Int) < (l.length : Int) by omega), if_pos (show 0 ≤ (i : Int) by omega)]
          rw [rdL3_lt (by omega), w64 (n := (i : Int) + 1) (by omega) (by omega)]
          refine Ev.bind hz1 ?_
          simp only [if_neg hn]
          exact hz
        · refine hz3.imp id (fun h => ?_)
          rw [List.drop_eq_getElem_cons (by omega)]
          intro x hx
          rcases List.mem_cons.1 hx with rfl | hx
          · exact g2
          · exact h x hx
  have szs : ∃ z, Ev (fun k => laws_szMetaSS.f k l 1048576) z ∧ (z < 0 ∨ (l.length ≤ 1048576 ∧ ∀ x ∈ l, x.length ≤ 1048576)) := by
    unfold laws_szMetaSS.f
    rw [w64 (by omega) (by omega)]
    by_cases hn : (1048576 : Int) - l.length < 0
    · exact ⟨-1, by simp only [if_pos hn]; exact Ev.now _, .inl (by omega)⟩
    · simp only [if_neg hn]
      obtain ⟨z, hz, hz2⟩ := loop l.length 0 (1048576 - l.length) (by omega) (by omega) (by omega) (by omega) (by omega)
      exact ⟨z, hz, hz2.imp id (fun h => ⟨by omega, by simpa using h⟩)⟩
  obtain ⟨z, hz, hz2⟩ := szs
  unfold laws_szVersion.f
  by_cases hn : z < 0
  · exact ⟨-1, Ev.bind hz (by simp only [if_pos hn]; exact Ev.now _), .inl (by omega)⟩
  · exact ⟨z, Ev.bind hz (by simp only [if_neg hn]; exact Ev.now _), hz2⟩
/-- one more place of a row that is filled from the front -/
theorem fill_step {α : Type} {o m : List α} {i : Nat} (ho : o.length = m.length) (hi : i < m.length) (ht : o.take i = m.take i) : (o.set i m[i]).take (i + 1) = m.take (i + 1) := by
  apply List.ext_getElem?
  intro j
  rw [List.getElem?_take, List.getElem?_take]
  by_cases h1 : j < i
  · have := congrArg (fun x => x[j]?) ht
    simp only [List.getElem?_take, if_pos h1] at this
    rw [if_pos (by omega), if_pos (by omega), List.getElem?_set, if_neg (by omega), this]
  · by_cases h2 : j = i
    · subst h2
      rw [if_pos (by omega), if_pos (by omega), List.getElem?_set]
      simp [show j < o.length by omega, hi]
    · rw [if_neg (by omega), if_neg (by omega)]
theorem toMetaS_ev (l : List S82) (hl : l.length ≤ 1048576) : Ev (fun k => laws_toMetaS.f k l) (l.map toM) := by
  have loop : ∀ (d i : Nat) (o : List S60), l.length - i = d → i ≤ l.length → o.length = l.length → o.take i = (l.map toM).take i → Ev (fun k => laws_toMetaS.l0 k l o (i : Int)) (l.map toM) := by
    intro d
    induction d with
    | zero =>
      intro i o hd hi ho ht
      refine Ev_succ ?_
      simp only [laws_toMetaS.l0]
      simp only [if_neg (show ¬ (i : Int) < (l.length : Int) by omega)]
      exact Ev_cast (Ev.now _) (by rw [List.take_of_length_le (by omega), List.take_of_length_le (by simp; omega)] at ht; exact ht)
    | succ d ih =>
      intro i o hd hi ho ht
      refine Ev_succ ?_
      simp only [laws_toMetaS.l0]
      simp only [if_pos (show (i : Int) < (l.length : Int) by omega), if_pos (show 0 ≤ (i : Int) by omega), if_pos (show (i : Int) < (o.length : Int) by omega)]
      rw [rd82_lt (by omega), w64 (by omega) (by omega)]
      refine Ev.bind (a := ((l[i]'(by omega)).f0, (l[i]'(by omega)).f1, (l[i]'(by omega)).f2, (l[i]'(by omega)).f3)) (Ev_some rfl) ?_
      refine ih (i + 1) _ (by omega) (by omega) (by simpa using ho) ?_
      rw [Int.toNat_natCast]
      have := fill_step (o := o) (m := l.map toM) (i := i) (by simpa using ho) (by simp; omega) ht
      simpa [toM] using this
  unfold laws_toMetaS.f
  simp only [if_pos (show 0 ≤ (l.length : Int) by omega), Int.toNat_natCast, if_pos (show l.length ≤ 5864062014805 by omega)]
  exact loop l.length 0 _ (by omega) (by omega) (by simp) (by simp)
def toV (l : List (List S82)) : List (List S60) := l.map (fun x => x.map toM)
theorem toVersion_ev (n1 n2 n3 : Int) (l : List (List S82)) (hl : l.length ≤ 1048576) (hs : ∀ x ∈ l, x.length ≤ 1048576) : Ev (fun k => laws_toVersion.f k n1 n2 n3 l) (n1, n2, n3, toV l) := by
  have loop : ∀ (d i : Nat) (o : List (List S60)), l.length - i = d → i ≤ l.length → o.length = l.length → o.take i = (toV l).take i → Ev (fun k => laws_toMetaSS.l0 k l o (i : Int)) (toV l) := by
    intro d
    induction d with
    | zero =>
      intro i o hd hi ho ht
      refine Ev_succ ?_
      simp only [laws_toMetaSS.l0]
      simp only [if_neg (show ¬ (i : Int) < (l.length : Int) by omega)]
      exact Ev_cast (Ev.now _) (by rw [List.take_of_length_le (by omega), List.take_of_length_le (by simp [toV]; omega)] at ht; exact ht)
    | succ d ih =>
      intro i o hd hi ho ht
      refine Ev_succ ?_
      simp only [laws_toMetaSS.l0]
      simp only [if_pos (show (i : Int) < (l.length : Int) by omega), if_pos (show 0 ≤ (i : Int) by omega), if_pos (show (i : Int) < (o.length : Int) by omega)]
      rw [rdL3_lt (by omega), w64 (by omega) (by omega)]
      refine Ev.bind (toMetaS_ev _ (hs _ (List.getElem_mem (by omega)))) ?_
      refine ih (i + 1) _ (by omega) (by omega) (by simpa using ho) ?_
      rw [Int.toNat_natCast]
      have := fill_step (o := o) (m := toV l) (i := i) (by simpa [toV] using ho) (by simp [toV]; omega) ht
      simpa [toV] using this
  unfold laws_toVersion.f laws_toMetaSS.f
  simp only [if_pos (show 0 ≤ (l.length : Int) by omega), Int.toNat_natCast, if_pos (show l.length ≤ 11728124029610 by omega)]
  exact Ev.bind (loop l.length 0 _ (by omega) (by omega) (by simp) (by simp)) (Ev.now _)
theorem eqMeta_same (x : S60) : laws_eqMeta.f x.f0 x.f1 x.f2 x.f3 x.f0 x.f1 x.f2 x.f3 = some true := by simp [laws_eqMeta.f]
theorem eqMetaS_same (l : List S60) (hl : l.length ≤ 1048576) : Ev (fun k => laws_eqMetaS.f k l l) true := by
  have loop : ∀ (d i : Nat), l.length - i = d → i ≤ l.length → Ev (fun k => laws_eqMetaS.l0 k l l (i : Int)) true := by
    intro d
    induction d with
    | zero =>
      intro i hd hi
      refine Ev_succ ?_
      simp only [laws_eqMetaS.l0]
      simp only [if_neg (show ¬ (i : Int) < (l.length : Int) by omega)]
      exact Ev.now _
    | succ d ih =>
      intro i hd hi
      refine Ev_succ ?_
      simp only [laws_eqMetaS.l0]
      simp only [if_pos (show (i : Int) < (l.length : Int) by omega), if_pos (show 0 ≤ (i : Int) by omega)]
      rw [w64 (by omega) (by omega)]
      refine Ev.bind (Ev_some (eqMeta_same _)) ?_
      simp only [if_true]
      exact ih (i + 1) (by omega) (by omega)
  unfold laws_eqMetaS.f
  simp only [if_true]
  exact loop l.length 0 (by omega) (by omega)
theorem eqVersion_same (n1 n2 n3 : Int) (l : List (List S60)) (hl : l.length ≤ 1048576) (hs : ∀ x ∈ l, x.length ≤ 1048576) : Ev (fun k => laws_eqVersion.f k n1 n2 n3 l n1 n2 n3 l) true := by
  have loop : ∀ (d i : Nat), l.length - i = d → i ≤ l.length → Ev (fun k => laws_eqMetaSS.l0 k l l (i : Int)) true := by
    intro d
    induction d with
    | zero =>
      intro i hd hi
      refine Ev_succ ?_
      simp only [laws_eqMetaSS.l0]
      simp only [if_neg (show ¬ (i : Int) < (l.length : Int) by omega)]
      exact Ev.now _
    | succ d ih =>
      intro i hd hi
      refine Ev_succ ?_
      simp only [laws_eqMetaSS.l0]
      simp only [if_pos (show (i : Int) < (l.length : Int) by omega), if_pos (show 0 ≤ (i : Int) by omega)]
      rw [rdL5_lt (by omega), w64 (by omega) (by omega)]
      refine Ev.bind (eqMetaS_same _ (hs _ (List.getElem_mem (by omega)))) ?_
      simp only [if_true]
      exact ih (i + 1) (by omega) (by omega)
  unfold laws_eqVersion.f laws_eqMetaSS.f
  simp only [if_true]
  refine Ev.bind (loop l.length 0 (by omega) (by omega)) ?_
  simp only [if_true]
  exact Ev.now _
/-! ### good versions -/
def metaOk (f : Int) (a b : ByteArray) (m : Int) : Bool := decide (1 ≤ f ∧ f ≤ 100000) && decide (1 ≤ (a.size : Int) ∧ (a.size : Int) ≤ 140) && decide (1 ≤ (b.size : Int) ∧ (b.size : Int) ≤ 140) && !(Op.bytesLess b.toList a.toList) && decide (1 ≤ m ∧ m ≤ 100)
theorem l9Meta_eq (f : Int) (a b : ByteArray) (m : Int) : spec_l9Meta.f f a b m = some (metaOk f a b m) := by
  unfold spec_l9Meta.f spec_l9File.f metaOk
  simp only [l1In_eq, Option.bind_some]
  by_cases h1 : 1 ≤ f ∧ f ≤ 100000
  · by_cases h2 : 1 ≤ (a.size : Int) ∧ (a.size : Int) ≤ 140
    · by_cases h3 : 1 ≤ (b.size : Int) ∧ (b.size : Int) ≤ 140
      · cases h4 : Op.bytesLess b.toList a.toList <;> simp [h1, h2, h3, h4]
      · simp [h1, h2, h3]
    · simp [h1, h2]
  · simp [h1]
theorem isGood_eq (f : Int) (a b : ByteArray) (m : Int) : impl_Meta_isGood.f f a b m = some (metaOk f a b m) := by
  unfold impl_Meta_isGood.f impl_isFile.f impl_isKeyText.f metaOk
  simp only [within_eq, Option.bind_some]
  by_cases h1 : 1 ≤ f ∧ f ≤ 100000
  · by_cases h2 : 1 ≤ (a.size : Int) ∧ (a.size : Int) ≤ 140
    · by_cases h3 : 1 ≤ (b.size : Int) ∧ (b.size : Int) ≤ 140
      · cases h4 : Op.bytesLess b.toList a.toList <;> simp [h1, h2, h3, h4]
      · simp [h1, h2, h3]
    · simp [h1, h2]
  · simp [h1]
/-- the order within a level, before place j -/
def ordOk (lv : Int) (l : List S60) (j : Nat) : Bool := if lv > 0 ∧ (j : Int) > 0 then Op.bytesLess (rd_T60 l (wrap64 ((j : Int) - 1))).f2.toList (rd_T60 l (j : Int)).f1.toList else true
def elemOk (nx lg lv : Int) (l : List S60) (j : Nat) (s : List Int) : Bool :=
  metaOk (rd_T60 l (j : Int)).f0 (rd_T60 l (j : Int)).f1 (rd_T60 l (j : Int)).f2 (rd_T60 l (j : Int)).f3 && (decide ((rd_T60 l (j : Int)).f0 < nx) && (decide (¬ (rd_T60 l (j : Int)).f0 = lg) && (ordOk lv l j && !(s.any (fun v => v == (rd_T60 l (j : Int)).f0)))))
def gvE (nx lg lv : Int) (l : List S60) : Nat → Nat → List Int → Option (List Int)
  | 0, _, s => some s
  | d + 1, j, s => if elemOk nx lg lv l j s = true then gvE nx lg lv l d (j + 1) (s ++ [(rd_T60 l (j : Int)).f0]) else none
def gvT (o : Option (List Int)) (G : List Int → Bool) : Bool := match o with
  | none => false
  | some s => G s
def gvL (nx lg : Int) (ls : List (List S60)) : Nat → Nat → List Int → Bool
  | 0, _, _ => true
  | d + 1, i, s => if ((rd_L5 ls (i : Int)).length : Int) > 12 then false else gvT (gvE nx lg (i : Int) (rd_L5 ls (i : Int)) (rd_L5 ls (i : Int)).length 0 s) (gvL nx lg ls d (i + 1))
theorem gvE_len (nx lg lv : Int) (l : List S60) : ∀ (d j : Nat) (s s' : List Int), gvE nx lg lv l d j s = some s' → s'.length = s.length + d := by
  intro d
  induction d with
  | zero => intro j s s' h; simp [gvE] at h; subst h; rfl
  | succ d ih =>
    intro j s s' h
    simp only [gvE] at h
    split at h
    · have := ih _ _ _ h; simp at this; omega
    · cases h
/-- the spec's look for the file among those seen -/
theorem spec_seen (s : List Int) (lv : Int) (l : List S60) (ls : List (List S60)) (n i : Int) (l' : List S60) (m j nx lg sq : Int) (f0 : Int) (f1 f2 : ByteArray) (f3 : Int) (R : Bool) (hsl : s.length < 17592186044416)
    (HC : Ev (fun k => spec_GoodVersion.l1 k (s ++ [f0]) lv l ls n i l' m (wrap64 (j + 1)) nx lg sq ls) R) : ∀ (d q : Nat), s.length - q = d → q ≤ s.length →
    Ev (fun k => spec_GoodVersion.l2 k s lv l ls n i l' m j s (s.length : Int) (q : Int) nx lg sq ls f0 f1 f2 f3) (if (s.drop q).any (fun v => v == f0) = true then false else R) := by
  intro d
  induction d with
  | zero =>
    intro q hd hq
    refine Ev_succ ?_
    simp only [spec_GoodVersion.l2]
    simp only [if_neg (show ¬ (q : Int) < (s.length : Int) by omega), if_pos hsl]
    rw [List.drop_eq_nil_of_le (by omega)]
    exact HC
  | succ d ih =>
    intro q hd hq
    refine Ev_succ ?_
    simp only [spec_GoodVersion.l2]
    simp only [if_pos (show (q : Int) < (s.length : Int) by omega), if_pos (show 0 ≤ (q : Int) by omega)]
    rw [rd_lt (show q < s.length by omega), List.drop_eq_getElem_cons (show q < s.length by omega), List.any_cons]
    by_cases he : s[q]'(by omega) = f0
    · simp only [if_pos he]
      exact Ev_cast (Ev.now _) (by simp [he])
    · simp only [if_neg he]
      rw [w64 (by omega) (by omega)]
      exact Ev_cast (ih (q + 1) (by omega) (by omega)) (by simp [he])
theorem spec_row (ls : List (List S60)) (n i lv nx lg sq : Int) (l : List S60) (hl : l.length ≤ 1048576) (G : List Int → Bool) (B : Nat) (hB : B < 17592186044416)
    (H : ∀ s' : List Int, s'.length ≤ B → Ev (fun k => spec_GoodVersion.l0 k s' ls n (wrap64 (i + 1)) nx lg sq ls) (G s')) : ∀ (d j : Nat) (s : List Int), l.length - j = d → j ≤ l.length → s.length + d ≤ B →
    Ev (fun k => spec_GoodVersion.l1 k s lv l ls n i l (l.length : Int) (j : Int) nx lg sq ls) (gvT (gvE nx lg lv l d j s) G) := by
  intro d
  induction d with
  | zero =>
    intro j s hd hj hs
    refine Ev_succ ?_
    simp only [spec_GoodVersion.l1]
    simp only [if_neg (show ¬ (j : Int) < (l.length : Int) by omega)]
    exact H s (by omega)
  | succ d ih =>
    intro j s hd hj hs
    have fin : ∀ b : Bool, Ev (fun k => spec_GoodVersion.j3 k s lv l ls n i l (l.length : Int) (j : Int) b nx lg sq ls (rd_T60 l (j : Int)).f0 (rd_T60 l (j : Int)).f1 (rd_T60 l (j : Int)).f2 (rd_T60 l (j : Int)).f3) (if b = true then false else if s.any (fun v => v == (rd_T60 l (j : Int)).f0) = true then false else gvT (gvE nx lg lv l d (j + 1) (s ++ [(rd_T60 l (j : Int)).f0])) G) := by
      intro b
      refine Ev_succ ?_
      simp only [spec_GoodVersion.j3]
      cases b with
      | true => exact Ev.now _
      | false =>
        simp only [Bool.false_eq_true, if_false]
        refine Ev_cast (spec_seen s lv l ls n i l (l.length : Int) (j : Int) nx lg sq _ _ _ _ (gvT (gvE nx lg lv l d (j + 1) (s ++ [(rd_T60 l (j : Int)).f0])) G) (by omega) ?_ s.length 0 (by omega) (by omega)) (by simp)
        rw [w64 (by omega) (by omega)]
        exact ih (j + 1) _ (by omega) (by omega) (by simp; omega)
    refine Ev_succ ?_
    simp only [spec_GoodVersion.l1]
    simp only [if_pos (show (j : Int) < (l.length : Int) by omega), if_pos (show 0 ≤ (j : Int) by omega)]
    refine Ev.bind (Ev_some (l9Meta_eq _ _ _ _)) ?_
    simp only [gvE, elemOk]
    by_cases h1 : metaOk (rd_T60 l (j : Int)).f0 (rd_T60 l (j : Int)).f1 (rd_T60 l (j : Int)).f2 (rd_T60 l (j : Int)).f3 = true
    · simp only [if_pos h1]
      by_cases h2 : (rd_T60 l (j : Int)).f0 ≥ nx
      · simp only [if_pos h2]
        exact Ev_cast (fin true) (by simp [show ¬ (rd_T60 l (j : Int)).f0 < nx by omega, gvT])
      · simp only [if_neg h2]
        by_cases h3 : (rd_T60 l (j : Int)).f0 = lg
        · simp only [if_pos h3]
          exact Ev_cast (fin true) (by simp [h3, gvT])
        · simp only [if_neg h3]
          by_cases h4 : lv > 0 ∧ (j : Int) > 0
          · simp only [if_pos h4.1, if_pos h4.2]
            have hw : wrap64 ((j : Int) - 1) = (j : Int) - 1 := w64 (by omega) (by omega)
            simp only [if_pos (show 0 ≤ wrap64 ((j : Int) - 1) by omega), if_pos (show wrap64 ((j : Int) - 1) < (l.length : Int) by omega)]
            refine Ev_cast (fin _) ?_
            simp only [h1, show (rd_T60 l (j : Int)).f0 < nx by omega, h3, ordOk, if_pos h4]
            cases hb : Op.bytesLess (rd_T60 l (wrap64 ((j : Int) - 1))).f2.toList (rd_T60 l (j : Int)).f1.toList <;> cases ha : s.any (fun v => v == (rd_T60 l (j : Int)).f0) <;> simp [gvT]
          · have : ∀ {α : Type} (x y : α), (if lv > 0 then (if (j : Int) > 0 then x else y) else y) = y := by
              intro α x y
              by_cases h5 : lv > 0
              · rw [if_pos h5, if_neg (fun h6 => h4 ⟨h5, h6⟩)]
              · rw [if_neg h5]
            simp only [this]
            refine Ev_cast (fin false) ?_
            simp only [h1, show (rd_T60 l (j : Int)).f0 < nx by omega, h3, ordOk, if_neg h4]
            cases ha : s.any (fun v => v == (rd_T60 l (j : Int)).f0) <;> simp [gvT]
    · simp only [if_neg h1]
      exact Ev_cast (fin true) (by simp [h1, gvT])
theorem spec_levels (ls : List (List S60)) (nx lg sq : Int) (hls : ls.length ≤ 1048576) (hr : ∀ x ∈ ls, x.length ≤ 1048576) : ∀ (d i : Nat) (s : List Int), ls.length - i = d → i ≤ ls.length → s.length ≤ i * 1048576 →
    Ev (fun k => spec_GoodVersion.l0 k s ls (ls.length : Int) (i : Int) nx lg sq ls) (gvL nx lg ls d i s) := by
  intro d
  induction d with
  | zero =>
    intro i s hd hi hs
    refine Ev_succ ?_
    simp only [spec_GoodVersion.l0]
    simp only [if_neg (show ¬ (i : Int) < (ls.length : Int) by omega)]
    exact Ev.now _
  | succ d ih =>
    intro i s hd hi hs
    refine Ev_succ ?_
    simp only [spec_GoodVersion.l0]
    simp only [if_pos (show (i : Int) < (ls.length : Int) by omega), if_pos (show 0 ≤ (i : Int) by omega)]
    have hx : (rd_L5 ls (i : Int)).length ≤ 1048576 := by rw [rdL5_lt (show i < ls.length by omega)]; exact hr _ (List.getElem_mem _)
    simp only [gvL]
    by_cases hb : ((rd_L5 ls (i : Int)).length : Int) > 12
    · simp only [if_pos hb]
      exact Ev.now _
    · simp only [if_neg hb]
      refine spec_row ls (ls.length : Int) (i : Int) (i : Int) nx lg sq (rd_L5 ls (i : Int)) hx (gvL nx lg ls d (i + 1)) ((i + 1) * 1048576) (by omega) ?_ _ 0 s (by omega) (by omega) (by omega)
      intro s' hs'
      rw [w64 (by omega) (by omega)]
      exact ih (i + 1) s' (by omega) (by omega) hs'
def goodV (nx lg sq : Int) (ls : List (List S60)) : Bool := decide (1 ≤ nx ∧ nx ≤ 100000) && (decide (1 ≤ lg ∧ lg ≤ wrap64 (nx - 1)) && (decide (0 ≤ sq ∧ sq ≤ 1000000000) && (decide ((ls.length : Int) = 3) && gvL nx lg ls ls.length 0 [])))
theorem spec_goodV (nx lg sq : Int) (ls : List (List S60)) (hls : ls.length ≤ 1048576) (hr : ∀ x ∈ ls, x.length ≤ 1048576) : Ev (fun k => spec_GoodVersion.f k nx lg sq ls) (goodV nx lg sq ls) := by
  have fin : ∀ b : Bool, Ev (fun k => spec_GoodVersion.j0 k b nx lg sq ls) (if b = true then false else gvL nx lg ls ls.length 0 []) := by
    intro b
    refine Ev_succ ?_
    simp only [spec_GoodVersion.j0]
    cases b with
    | true => exact Ev.now _
    | false =>
      simp only [Bool.false_eq_true, if_false]
      exact spec_levels ls nx lg sq hls hr ls.length 0 [] (by omega) (by omega) (by simp)
  unfold spec_GoodVersion.f spec_l9File.f goodV
  simp only [l1In_eq, Option.bind_some]
  by_cases h1 : 1 ≤ nx ∧ nx ≤ 100000
  · simp only [h1]
    by_cases h2 : 1 ≤ lg ∧ lg ≤ wrap64 (nx - 1)
    · simp only [h2]
      by_cases h3 : 0 ≤ sq ∧ sq ≤ 1000000000
      · simp only [h3]
        exact Ev_cast (fin _) (by by_cases h4 : (ls.length : Int) = 3 <;> simp [h4])
      · simp only [h3]
        exact Ev_cast (fin _) (by simp)
    · simp only [h2]
      exact Ev_cast (fin _) (by simp)
  · simp only [h1]
    exact Ev_cast (fin _) (by simp)
theorem index_ev (s : List Int) (v : Int) (hs : s.length < 17592186044416) : ∀ (d q : Nat), s.length - q = d → q ≤ s.length → ∃ r, Ev (fun k => slices_Index_int_int.l0 k s v (s.length : Int) (q : Int)) r ∧ decide (r ≥ 0) = (s.drop q).any (fun x => x == v) := by
  intro d
  induction d with
  | zero =>
    intro q hd hq
    refine ⟨-1, Ev_succ ?_, by rw [List.drop_eq_nil_of_le (by omega)]; rfl⟩
    simp only [slices_Index_int_int.l0]
    simp only [if_neg (show ¬ (q : Int) < (s.length : Int) by omega)]
    exact Ev.now _
  | succ d ih =>
    intro q hd hq
    by_cases he : v = s[q]'(by omega)
    · refine ⟨(q : Int), Ev_succ ?_, ?_⟩
      · simp only [slices_Index_int_int.l0]
        simp only [if_pos (show (q : Int) < (s.length : Int) by omega), if_pos (show 0 ≤ (q : Int) by omega)]
        rw [rd_lt (show q < s.length by omega)]
        simp only [if_pos he]
        exact Ev.now _
      · rw [List.drop_eq_getElem_cons (show q < s.length by omega), List.any_cons]
        simp [he, show (0 : Int) ≤ (q : Int) by omega]
    · obtain ⟨r, hr, hr2⟩ := ih (q + 1) (by omega) (by omega)
      refine ⟨r, Ev_succ ?_, ?_⟩
      · simp only [slices_Index_int_int.l0]
        simp only [if_pos (show (q : Int) < (s.length : Int) by omega), if_pos (show 0 ≤ (q : Int) by omega)]
        rw [rd_lt (show q < s.length by omega), w64 (by omega) (by omega)]
        simp only [if_neg he]
        exact hr
      · rw [hr2, List.drop_eq_getElem_cons (show q < s.length by omega), List.any_cons]
        simp [show ¬ s[q]'(by omega) = v from fun h => he h.symm]
theorem contains_ev (s : List Int) (v : Int) (hs : s.length < 17592186044416) : Ev (fun k => slices_Contains_int_int.f k s v) (s.any (fun x => x == v)) := by
  obtain ⟨r, hr, hr2⟩ := index_ev s v hs s.length 0 (by omega) (by omega)
  unfold slices_Contains_int_int.f slices_Index_int_int.f
  exact Ev.bind hr (Ev_cast (Ev.now _) (by simpa using hr2))
theorem impl_row (ls : List (List S60)) (n i lv nx lg sq : Int) (l : List S60) (hl : l.length ≤ 1048576) (G : List Int → Bool) (B : Nat) (hB : B < 17592186044416)
    (H : ∀ s' : List Int, s'.length ≤ B → Ev (fun k => impl_GoodVersion.l0 k s' ls n (wrap64 (i + 1)) nx lg sq ls) (G s')) : ∀ (d j : Nat) (s : List Int), l.length - j = d → j ≤ l.length → s.length + d ≤ B →
    Ev (fun k => impl_GoodVersion.l1 k s lv l ls n i l (l.length : Int) (j : Int) nx lg sq ls) (if (l.length : Int) > 12 then false else gvT (gvE nx lg lv l d j s) G) := by
  intro d
  induction d with
  | zero =>
    intro j s hd hj hs
    refine Ev_succ ?_
    simp only [impl_GoodVersion.l1]
    simp only [if_neg (show ¬ (j : Int) < (l.length : Int) by omega)]
    by_cases hb : (l.length : Int) > 12
    · simp only [if_pos hb]
      exact Ev.now _
    · simp only [if_neg hb]
      exact H s (by omega)
  | succ d ih =>
    intro j s hd hj hs
    have nxt : Ev (fun k => impl_GoodVersion.l1 k (s ++ [(rd_T60 l (j : Int)).f0]) lv l ls n i l (l.length : Int) (wrap64 ((j : Int) + 1)) nx lg sq ls) (if (l.length : Int) > 12 then false else gvT (gvE nx lg lv l d (j + 1) (s ++ [(rd_T60 l (j : Int)).f0])) G) := by
      rw [w64 (by omega) (by omega)]
      exact ih (j + 1) _ (by omega) (by omega) (by simp; omega)
    refine Ev_succ ?_
    simp only [impl_GoodVersion.l1]
    simp only [if_pos (show (j : Int) < (l.length : Int) by omega), if_pos (show 0 ≤ (j : Int) by omega)]
    refine Ev.bind (Ev_some (isGood_eq _ _ _ _)) ?_
    simp only [gvE, elemOk]
    by_cases h1 : metaOk (rd_T60 l (j : Int)).f0 (rd_T60 l (j : Int)).f1 (rd_T60 l (j : Int)).f2 (rd_T60 l (j : Int)).f3 = true
    · simp only [if_pos h1]
      by_cases h2 : (rd_T60 l (j : Int)).f0 ≥ nx
      · simp only [if_pos h2]
        exact Ev_cast (Ev.now _) (by simp [show ¬ (rd_T60 l (j : Int)).f0 < nx by omega, gvT])
      · simp only [if_neg h2]
        by_cases h3 : (rd_T60 l (j : Int)).f0 = lg
        · simp only [if_pos h3]
          exact Ev_cast (Ev.now _) (by simp [h3, gvT])
        · simp only [if_neg h3]
          refine Ev.bind (contains_ev s _ (by omega)) ?_
          by_cases ha : s.any (fun v => v == (rd_T60 l (j : Int)).f0) = true
          · simp only [if_pos ha]
            exact Ev_cast (Ev.now _) (by simp only [ha]; simp [gvT])
          · simp only [if_neg ha, if_pos (show s.length < 17592186044416 by omega)]
            replace ha : s.any (fun v => v == (rd_T60 l (j : Int)).f0) = false := Bool.eq_false_iff.2 ha
            by_cases h4 : lv > 0 ∧ (j : Int) > 0
            · simp only [if_pos h4.1, if_pos h4.2]
              have hw : wrap64 ((j : Int) - 1) = (j : Int) - 1 := w64 (by omega) (by omega)
              simp only [if_pos (show 0 ≤ wrap64 ((j : Int) - 1) by omega), if_pos (show wrap64 ((j : Int) - 1) < (l.length : Int) by omega)]
              by_cases hb : Op.bytesLess (rd_T60 l (wrap64 ((j : Int) - 1))).f2.toList (rd_T60 l (j : Int)).f1.toList = true
              · simp only [if_pos hb]
                refine Ev_cast nxt ?_
                have ho : ordOk lv l j = true := by unfold ordOk; rw [if_pos h4]; exact hb
                simp only [h1, ho, ha, show (rd_T60 l (j : Int)).f0 < nx by omega, h3]
                simp
              · simp only [if_neg hb]
                refine Ev_cast (Ev.now _) ?_
                have ho : ordOk lv l j = false := by unfold ordOk; rw [if_pos h4]; simpa using hb
                simp only [ho]
                simp [gvT]
            · have : ∀ {α : Type} (x y : α), (if lv > 0 then (if (j : Int) > 0 then x else y) else y) = y := by
                intro α x y
                by_cases h5 : lv > 0
                · rw [if_pos h5, if_neg (fun h6 => h4 ⟨h5, h6⟩)]
                · rw [if_neg h5]
              simp only [this]
              refine Ev_cast nxt ?_
              have ho : ordOk lv l j = true := by unfold ordOk; rw [if_neg h4]
              simp only [h1, ho, ha, show (rd_T60 l (j : Int)).f0 < nx by omega, h3]
              simp
    · simp only [if_neg h1]
      exact Ev_cast (Ev.now _) (by simp [h1, gvT])
theorem impl_levels (ls : List (List S60)) (nx lg sq : Int) (hls : ls.length ≤ 1048576) (hr : ∀ x ∈ ls, x.length ≤ 1048576) : ∀ (d i : Nat) (s : List Int), ls.length - i = d → i ≤ ls.length → s.length ≤ i * 1048576 →
    Ev (fun k => impl_GoodVersion.l0 k s ls (ls.length : Int) (i : Int) nx lg sq ls) (gvL nx lg ls d i s) := by
  intro d
  induction d with
  | zero =>
    intro i s hd hi hs
    refine Ev_succ ?_
    simp only [impl_GoodVersion.l0]
    simp only [if_neg (show ¬ (i : Int) < (ls.length : Int) by omega)]
    exact Ev.now _
  | succ d ih =>
    intro i s hd hi hs
    refine Ev_succ ?_
    simp only [impl_GoodVersion.l0]
    simp only [if_pos (show (i : Int) < (ls.length : Int) by omega), if_pos (show 0 ≤ (i : Int) by omega)]
    have hx : (rd_L5 ls (i : Int)).length ≤ 1048576 := by rw [rdL5_lt (show i < ls.length by omega)]; exact hr _ (List.getElem_mem _)
    simp only [gvL]
    refine impl_row ls (ls.length : Int) (i : Int) (i : Int) nx lg sq (rd_L5 ls (i : Int)) hx (gvL nx lg ls d (i + 1)) ((i + 1) * 1048576) (by omega) ?_ _ 0 s (by omega) (by omega) (by omega)
    intro s' hs'
    rw [w64 (by omega) (by omega)]
    exact ih (i + 1) s' (by omega) (by omega) hs'
theorem impl_goodV (nx lg sq : Int) (ls : List (List S60)) (hls : ls.length ≤ 1048576) (hr : ∀ x ∈ ls, x.length ≤ 1048576) : Ev (fun k => impl_GoodVersion.f k nx lg sq ls) (goodV nx lg sq ls) := by
  have fin : ∀ b : Bool, Ev (fun k => impl_GoodVersion.j0 k b nx lg sq ls) (if b = true then false else gvL nx lg ls ls.length 0 []) := by
    intro b
    refine Ev_succ ?_
    simp only [impl_GoodVersion.j0]
    cases b with
    | true => exact Ev.now _
    | false =>
      simp only [Bool.false_eq_true, if_false]
      exact impl_levels ls nx lg sq hls hr ls.length 0 [] (by omega) (by omega) (by simp)
  unfold impl_GoodVersion.f impl_isFile.f goodV
  simp only [within_eq, Option.bind_some]
  by_cases h1 : 1 ≤ nx ∧ nx ≤ 100000
  · simp only [h1]
    by_cases h2 : 1 ≤ lg ∧ lg ≤ wrap64 (nx - 1)
    · simp only [h2]
      by_cases h3 : 0 ≤ sq ∧ sq ≤ 1000000000
      · simp only [h3]
        exact Ev_cast (fin _) (by by_cases h4 : (ls.length : Int) = 3 <;> simp [h4])
      · simp only [h3]
        exact Ev_cast (fin _) (by simp)
    · simp only [h2]
      exact Ev_cast (fin _) (by simp)
  · simp only [h1]
    exact Ev_cast (fin _) (by simp)
theorem toV_len (l : List (List S82)) : (toV l).length = l.length := by simp [toV]
theorem toV_rows (l : List (List S82)) (hs : ∀ x ∈ l, x.length ≤ 1048576) : ∀ x ∈ toV l, x.length ≤ 1048576 := by
  intro x hx
  obtain ⟨y, hy, rfl⟩ := List.mem_map.1 hx
  simpa using hs y hy
/-! ### the files of a version -/
theorem markMetaS_ev (l : List S60) (hl : l.length ≤ 1048576) : ∀ (d i : Nat) (o : List S60) (a : Int), l.length - i = d → i ≤ l.length → o.length = l.length → 0 ≤ a → a ≤ 10000000000000 + 4 * i → ∃ r : Int × List S60, Ev (fun k => laws_markMetaS.l0 k o a (i : Int)) r ∧ r.1 = a + 4 * d := by
  intro d
  induction d with
  | zero =>
    intro i o a hd hi ho h0 h1
    refine ⟨(a, o), Ev_succ ?_, by simp⟩
    simp only [laws_markMetaS.l0]
    simp only [if_neg (show ¬ (i : Int) < (o.length : Int) by omega)]
    exact Ev.now _
  | succ d ih =>
    intro i o a hd hi ho h0 h1
    have b1 : (i : Int) < (o.length : Int) := by omega
    have b2 : 0 ≤ (i : Int) := by omega
    obtain ⟨n, rfl⟩ := Int.eq_ofNat_of_zero_le h0
    obtain ⟨t1, ht1⟩ := markText_ev (n + 1) (by omega)
    obtain ⟨t2, ht2⟩ := markText_ev (n + 2) (by omega)
    have key : ∀ o' : List S60, o'.length = l.length → ∃ r : Int × List S60, Ev (fun k => laws_markMetaS.l0 k o' ((n + 4 : Nat) : Int) ((i + 1 : Nat) : Int)) r ∧ r.1 = ((n + 4 : Nat) : Int) + 4 * d := fun o' ho' => ih (i + 1) o' _ (by omega) (by omega) ho' (by omega) (by omega)
    have e1 : wrap64 ((n : Int) + 1) = ((n + 1 : Nat) : Int) := by rw [w64 (by omega) (by omega)]; omega
    have e2 : wrap64 (((n + 1 : Nat) : Int) + 1) = ((n + 2 : Nat) : Int) := by rw [w64 (by omega) (by omega)]; omega
    have e3 : wrap64 (((n + 2 : Nat) : Int) + 1) = ((n + 3 : Nat) : Int) := by rw [w64 (by omega) (by omega)]; omega
    have e4 : wrap64 (((n + 3 : Nat) : Int) + 1) = ((n + 4 : Nat) : Int) := by rw [w64 (by omega) (by omega)]; omega
    have e5 : wrap64 ((i : Int) + 1) = ((i + 1 : Nat) : Int) := by rw [w64 (by omega) (by omega)]; omega
    have hs : ∀ (o1 : List S60) (j : Nat) (v : S60), o1.length = l.length → (o1.set j v).length = l.length := fun o1 j v h => by rw [List.length_set]; exact h
    obtain ⟨r, hr, hr2⟩ := key _ (hs _ _ _ (hs _ _ _ (hs _ _ _ (hs _ (i : Int).toNat (⟨(n : Int), (rd_T60 o (i : Int)).f1, (rd_T60 o (i : Int)).f2, (rd_T60 o (i : Int)).f3⟩ : S60) ho))))
    refine ⟨r, Ev_succ ?_, by rw [hr2]; omega⟩
    simp only [laws_markMetaS.l0]
    simp only [if_pos b1, if_pos b2, Option.bind_some, e1, e2, e3, e4, e5]
    refine Ev.bind ht1 (Ev.bind ht2 ?_)
    exact hr
theorem markVersion_ev2 (n1 n2 n3 : Int) (l : List (List S60)) (hl : l.length ≤ 1048576) (hs : ∀ x ∈ l, x.length ≤ 1048576) : ∃ r, Ev (fun k => laws_markVersion.f k n1 n2 n3 l 1) r ∧ 0 ≤ r := by
  have rows : ∀ (l : List (List S60)) (a : Int), (∀ x ∈ l, x.length ≤ 1048576) → 0 ≤ a → a + 4194304 * l.length ≤ 10000000000000 → ∃ r, Ev (fun k => laws_markVersion.l k l a) r ∧ 0 ≤ r := by
    intro l
    induction l with
    | nil => intro a _ h0 _; exact ⟨a, Ev.now _, h0⟩
    | cons x t ih =>
      intro a hs h0 h1
      rw [List.length_cons] at h1
      have hx := hs x (List.mem_cons_self ..)
      obtain ⟨r1, e1, e2⟩ := markMetaS_ev x hx x.length 0 x a (by omega) (by omega) rfl h0 (by omega)
      obtain ⟨r, e3, e4⟩ := ih r1.1 (fun y hy => hs y (List.mem_cons_of_mem _ hy)) (by omega) (by omega)
      refine ⟨r, ?_, e4⟩
      simp only [laws_markVersion.l]
      exact Ev.bind (by unfold laws_markMetaS.f; exact e1) e3
  obtain ⟨r, h, h2⟩ := rows l 1 hs (by omega) (by omega)
  refine ⟨r, ?_, h2⟩
  unfold laws_markVersion.f
  simp only [if_pos (show l.length ≤ 4611686018427387904 by omega)]
  exact h
def fs (l : List S60) : List Int := l.map (fun m => m.f0)
def allFiles (ls : List (List S60)) : List Int := ls.flatMap fs
theorem fs_len (l : List S60) : (fs l).length = l.length := by simp [fs]
theorem allFiles_len (ls : List (List S60)) (hs : ∀ x ∈ ls, x.length ≤ 1048576) : (allFiles ls).length ≤ ls.length * 1048576 := by
  induction ls with
  | nil => simp [allFiles]
  | cons x t ih =>
    have h1 := hs x (List.mem_cons_self ..)
    have h2 := ih (fun y hy => hs y (List.mem_cons_of_mem _ hy))
    have h3 : (allFiles (x :: t)).length = (fs x).length + (allFiles t).length := by unfold allFiles; rw [List.flatMap_cons, List.length_append]
    rw [h3, fs_len, List.length_cons]
    omega
/-- what the spec finds from n on -/
def so (all : List Int) : Nat → Int → List Int
  | 0, _ => []
  | d + 1, n => List.replicate (all.count n) n ++ so all d (n + 1)
theorem spec_files_row (ls : List (List S60)) (cnt i nx lg sq n : Int) (l : List S60) (hl : l.length ≤ 1048576) (R : List Int → List Int) (B : Nat) (hB : B < 17592186044416)
    (H : ∀ o : List Int, o.length ≤ B → Ev (fun k => spec_l9Files.l1 k o n ls cnt (wrap64 (i + 1)) nx lg sq ls) (R o)) : ∀ (d j : Nat) (o : List Int), l.length - j = d → j ≤ l.length → o.length + d ≤ B →
    Ev (fun k => spec_l9Files.l2 k o n ls cnt i l (l.length : Int) (j : Int) nx lg sq ls) (R (o ++ List.replicate ((fs (l.drop j)).count n) n)) := by
  intro d
  induction d with
  | zero =>
    intro j o hd hj ho
    refine Ev_succ ?_
    simp only [spec_l9Files.l2]
    simp only [if_neg (show ¬ (j : Int) < (l.length : Int) by omega)]
    rw [List.drop_eq_nil_of_le (by omega)]
    exact Ev_cast (H o (by omega)) (by simp [fs])
  | succ d ih =>
    intro j o hd hj ho
    refine Ev_succ ?_
    simp only [spec_l9Files.l2]
    simp only [if_pos (show (j : Int) < (l.length : Int) by omega), if_pos (show 0 ≤ (j : Int) by omega)]
    rw [rd60_lt (show j < l.length by omega), w64 (n := (j : Int) + 1) (by omega) (by omega), List.drop_eq_getElem_cons (show j < l.length by omega)]
    by_cases he : (l[j]'(by omega)).f0 = n
    · simp only [if_pos he, if_pos (show o.length < 17592186044416 by omega)]
      refine Ev_cast (ih (j + 1) (o ++ [n]) (by omega) (by omega) (by simp; omega)) ?_
      congr 1
      simp only [fs, List.map_cons, he, List.count_cons_self, List.append_assoc, List.singleton_append]
      rfl
    · simp only [if_neg he]
      refine Ev_cast (ih (j + 1) o (by omega) (by omega) (by omega)) ?_
      congr 1
      simp only [fs, List.map_cons]
      rw [List.count_cons_of_ne he]
theorem spec_files_levels (ls : List (List S60)) (nx lg sq n : Int) (hls : ls.length ≤ 1048576) (hr : ∀ x ∈ ls, x.length ≤ 1048576) (R : List Int → List Int) (B : Nat) (hB : B < 17592186044416)
    (H : ∀ o : List Int, o.length ≤ B → Ev (fun k => spec_l9Files.l0 k o (wrap64 (n + 1)) nx lg sq ls) (R o)) : ∀ (d i : Nat) (o : List Int), ls.length - i = d → i ≤ ls.length → o.length + d * 1048576 ≤ B →
    Ev (fun k => spec_l9Files.l1 k o n ls (ls.length : Int) (i : Int) nx lg sq ls) (R (o ++ List.replicate ((allFiles (ls.drop i)).count n) n)) := by
  intro d
  induction d with
  | zero =>
    intro i o hd hi ho
    refine Ev_succ ?_
    simp only [spec_l9Files.l1]
    simp only [if_neg (show ¬ (i : Int) < (ls.length : Int) by omega)]
    rw [List.drop_eq_nil_of_le (by omega)]
    exact Ev_cast (H o (by omega)) (by simp [allFiles])
  | succ d ih =>
    intro i o hd hi ho
    refine Ev_succ ?_
    simp only [spec_l9Files.l1]
    simp only [if_pos (show (i : Int) < (ls.length : Int) by omega), if_pos (show 0 ≤ (i : Int) by omega)]
    have hx := hr _ (List.getElem_mem (show i < ls.length by omega))
    rw [rdL5_lt (show i < ls.length by omega)]
    have := spec_files_row ls (ls.length : Int) (i : Int) nx lg sq n (ls[i]'(by omega)) hx (fun o => R (o ++ List.replicate ((allFiles (ls.drop (i + 1))).count n) n)) (o.length + 1048576) (by omega) (fun o' ho' => by
      rw [w64 (by omega) (by omega)]
      exact ih (i + 1) o' (by omega) (by omega) (by have : (d + 1) * 1048576 = d * 1048576 + 1048576 := by omega
                                                    omega)) _ 0 o rfl (by omega) (by omega)
    refine Ev_cast this ?_
    show R _ = R _
    congr 1
    rw [List.drop_eq_getElem_cons (show i < ls.length by omega), List.drop_zero]
    unfold allFiles
    rw [List.flatMap_cons, List.count_append, List.append_assoc, List.replicate_append_replicate]
theorem spec_files_ev (ls : List (List S60)) (nx lg sq : Int) (hnx : nx ≤ 100000) (hls : ls.length ≤ 3) (hr : ∀ x ∈ ls, x.length ≤ 1048576) : ∀ (d : Nat) (n : Int) (o : List Int), (nx - n).toNat = d → 1 ≤ n → o.length ≤ n.toNat * 3145728 →
    Ev (fun k => spec_l9Files.l0 k o n nx lg sq ls) (o ++ so (allFiles ls) d n) := by
  intro d
  induction d with
  | zero =>
    intro n o hd hn ho
    refine Ev_succ ?_
    simp only [spec_l9Files.l0]
    simp only [if_neg (show ¬ n < nx by omega)]
    exact Ev_cast (Ev.now _) (by simp [so])
  | succ d ih =>
    intro n o hd hn ho
    refine Ev_succ ?_
    simp only [spec_l9Files.l0]
    simp only [if_pos (show n < nx by omega)]
    have := spec_files_levels ls nx lg sq n (by omega) hr (fun o => o ++ so (allFiles ls) d (n + 1)) ((n.toNat + 1) * 3145728) (by omega) (fun o' ho' => by
      rw [w64 (by omega) (by omega)]
      exact ih (n + 1) o' (by omega) (by omega) (by rw [show (n + 1).toNat = n.toNat + 1 by omega]; exact ho')) ls.length 0 o rfl (by omega) (by omega)
    exact Ev_cast this (by rw [List.drop_zero, List.append_assoc]; rfl)
theorem impl_files_row (ls : List (List S60)) (cnt i : Int) (l : List S60) (hl : l.length ≤ 1048576) (R : List Int → List Int) (B : Nat) (hB : B < 17592186044416)
    (H : ∀ o : List Int, o.length ≤ B → Ev (fun k => impl_Version_files.l0 k o ls cnt (wrap64 (i + 1))) (R o)) : ∀ (d j : Nat) (o : List Int), l.length - j = d → j ≤ l.length → o.length + d ≤ B →
    Ev (fun k => impl_Version_files.l1 k o ls cnt i l (l.length : Int) (j : Int)) (R (o ++ fs (l.drop j))) := by
  intro d
  induction d with
  | zero =>
    intro j o hd hj ho
    refine Ev_succ ?_
    simp only [impl_Version_files.l1]
    simp only [if_neg (show ¬ (j : Int) < (l.length : Int) by omega)]
    rw [List.drop_eq_nil_of_le (by omega)]
    exact Ev_cast (H o (by omega)) (by simp [fs])
  | succ d ih =>
    intro j o hd hj ho
    refine Ev_succ ?_
    simp only [impl_Version_files.l1]
    simp only [if_pos (show (j : Int) < (l.length : Int) by omega), if_pos (show 0 ≤ (j : Int) by omega), if_pos (show o.length < 17592186044416 by omega)]
    rw [rd60_lt (show j < l.length by omega), w64 (n := (j : Int) + 1) (by omega) (by omega), List.drop_eq_getElem_cons (show j < l.length by omega)]
    refine Ev_cast (ih (j + 1) (o ++ [(l[j]'(by omega)).f0]) (by omega) (by omega) (by simp; omega)) ?_
    congr 1
    simp only [fs, List.map_cons, List.append_assoc, List.singleton_append]
theorem impl_files_ev (ls : List (List S60)) (hls : ls.length ≤ 3) (hr : ∀ x ∈ ls, x.length ≤ 1048576) : ∀ (d i : Nat) (o : List Int), ls.length - i = d → i ≤ ls.length → o.length ≤ i * 1048576 →
    Ev (fun k => impl_Version_files.l0 k o ls (ls.length : Int) (i : Int)) ((o ++ allFiles (ls.drop i)).mergeSort fun x y => decide (x ≤ y)) := by
  intro d
  induction d with
  | zero =>
    intro i o hd hi ho
    refine Ev_succ ?_
    simp only [impl_Version_files.l0]
    simp only [if_neg (show ¬ (i : Int) < (ls.length : Int) by omega)]
    rw [List.drop_eq_nil_of_le (by omega)]
    unfold slices_Sort_int_int.f
    simp only [if_pos (show o.length < 4611686018427387904 by omega), Option.bind_some]
    exact Ev_cast (Ev.now _) (by simp [allFiles])
  | succ d ih =>
    intro i o hd hi ho
    refine Ev_succ ?_
    simp only [impl_Version_files.l0]
    simp only [if_pos (show (i : Int) < (ls.length : Int) by omega), if_pos (show 0 ≤ (i : Int) by omega)]
    have hx := hr _ (List.getElem_mem (show i < ls.length by omega))
    rw [rdL5_lt (show i < ls.length by omega)]
    have := impl_files_row ls (ls.length : Int) (i : Int) (ls[i]'(by omega)) hx (fun o => (o ++ allFiles (ls.drop (i + 1))).mergeSort fun x y => decide (x ≤ y)) ((i + 1) * 1048576) (by omega) (fun o' ho' => by
      rw [w64 (by omega) (by omega)]
      exact ih (i + 1) o' (by omega) (by omega) ho') _ 0 o rfl (by omega) (by omega)
    refine Ev_cast this ?_
    show List.mergeSort _ _ = List.mergeSort _ _
    congr 1
    rw [List.drop_eq_getElem_cons (show i < ls.length by omega), List.drop_zero]
    unfold allFiles
    rw [List.flatMap_cons, List.append_assoc]
theorem so_ge (all : List Int) : ∀ (d : Nat) (n x : Int), x ∈ so all d n → n ≤ x
  | 0, n, x, h => by cases h
  | d + 1, n, x, h => by
    simp only [so] at h
    rcases List.mem_append.1 h with h | h
    · rw [List.eq_of_mem_replicate h]; omega
    · have := so_ge all d (n + 1) x h; omega
theorem so_sorted (all : List Int) : ∀ (d : Nat) (n : Int), (so all d n).Pairwise (· ≤ ·)
  | 0, n => List.Pairwise.nil
  | d + 1, n => by
    simp only [so]
    refine List.pairwise_append.2 ⟨?_, so_sorted all d (n + 1), fun a ha b hb => ?_⟩
    · exact List.pairwise_replicate.2 (.inr (Int.le_refl _))
    · have h1 := List.eq_of_mem_replicate ha
      have h2 := so_ge all d (n + 1) b hb
      omega
theorem so_count (all : List Int) : ∀ (d : Nat) (n a : Int), (so all d n).count a = if n ≤ a ∧ a < n + d then all.count a else 0
  | 0, n, a => by rw [if_neg (by omega)]; rfl
  | d + 1, n, a => by
    simp only [so]
    rw [List.count_append, so_count all d (n + 1) a, List.count_replicate]
    by_cases h1 : n = a
    · subst h1
      rw [if_neg (show ¬ (n + 1 ≤ n ∧ n < n + 1 + d) by omega), if_pos (show n ≤ n ∧ n < n + ((d + 1 : Nat) : Int) by omega)]
      simp
    · rw [if_neg (by simpa using h1)]
      by_cases h2 : n + 1 ≤ a ∧ a < n + 1 + d
      · rw [if_pos h2, if_pos (by omega)]; omega
      · rw [if_neg h2, if_neg (by omega)]
theorem so_mergeSort (all : List Int) (nx : Int) (h : ∀ a ∈ all, 1 ≤ a ∧ a < nx) : so all (nx - 1).toNat 1 = all.mergeSort fun x y => decide (x ≤ y) := by
  have hs : (all.mergeSort fun x y => decide (x ≤ y)).Pairwise (· ≤ ·) := by
    have := List.pairwise_mergeSort (le := fun x y : Int => decide (x ≤ y)) (fun a b c h1 h2 => by simp only [decide_eq_true_eq] at *; omega) (fun a b => by simp only [Bool.or_eq_true, decide_eq_true_eq]; omega) all
    exact this.imp (fun h => of_decide_eq_true h)
  refine List.Perm.eq_of_pairwise (le := (· ≤ ·)) (fun a b _ _ h1 h2 => by omega) (so_sorted all _ _) hs ?_
  refine List.Perm.trans ?_ (List.mergeSort_perm all _).symm
  rw [List.perm_iff_count]
  intro a
  rw [so_count]
  by_cases hc : 1 ≤ a ∧ a < 1 + (((nx - 1).toNat : Nat) : Int)
  · rw [if_pos hc]
  · rw [if_neg hc]
    symm
    rw [List.count_eq_zero]
    intro ha
    have := h a ha
    omega
theorem elems_in (nx lg lv : Int) (l : List S60) : ∀ (d j : Nat) (s s' : List Int), l.length - j = d → j ≤ l.length → gvE nx lg lv l d j s = some s' → ∀ a ∈ fs (l.drop j), 1 ≤ a ∧ a < nx := by
  intro d
  induction d with
  | zero =>
    intro j s s' hd hj h a ha
    rw [List.drop_eq_nil_of_le (by omega)] at ha
    cases ha
  | succ d ih =>
    intro j s s' hd hj h a ha
    simp only [gvE] at h
    split at h
    · rename_i hok
      rw [List.drop_eq_getElem_cons (show j < l.length by omega)] at ha
      simp only [fs, List.map_cons] at ha
      rcases List.mem_cons.1 ha with rfl | ha
      · simp only [elemOk, metaOk, Bool.and_eq_true, decide_eq_true_eq] at hok
        rw [rd60_lt (show j < l.length by omega)] at hok
        exact ⟨hok.1.1.1.1.1.1, hok.2.1⟩
      · exact ih (j + 1) _ _ (by omega) (by omega) h a ha
    · cases h
theorem levels_in (nx lg : Int) (ls : List (List S60)) : ∀ (d i : Nat) (s : List Int), ls.length - i = d → i ≤ ls.length → gvL nx lg ls d i s = true → ∀ a ∈ allFiles (ls.drop i), 1 ≤ a ∧ a < nx := by
  intro d
  induction d with
  | zero =>
    intro i s hd hi h a ha
    rw [List.drop_eq_nil_of_le (by omega)] at ha
    cases ha
  | succ d ih =>
    intro i s hd hi h a ha
    simp only [gvL] at h
    split at h
    · cases h
    · unfold gvT at h
      rw [List.drop_eq_getElem_cons (show i < ls.length by omega)] at ha
      unfold allFiles at ha
      rw [List.flatMap_cons] at ha
      rw [rdL5_lt (show i < ls.length by omega)] at h
      cases hg : gvE nx lg (i : Int) (ls[i]'(by omega)) (ls[i]'(by omega)).length 0 s with
      | none => rw [hg] at h; cases h
      | some s' =>
        rw [hg] at h
        rcases List.mem_append.1 ha with ha | ha
        · exact elems_in nx lg (i : Int) _ _ 0 s s' rfl (by omega) hg a (by rw [List.drop_zero]; exact ha)
        · exact ih (i + 1) s' (by omega) (by omega) h a ha
theorem filesOf_both (nx lg sq : Int) (ls : List (List S60)) (hls : ls.length ≤ 1048576) (hr : ∀ x ∈ ls, x.length ≤ 1048576) :
    ∃ r : List Int × Bool, Ev (fun k => spec_FilesOf.f k nx lg sq ls) r ∧ Ev (fun k => impl_FilesOf.f k nx lg sq ls) r ∧ r.1.length ≤ ls.length * 1048576 := by
  have h1 := spec_goodV nx lg sq ls hls hr
  have h2 := impl_goodV nx lg sq ls hls hr
  unfold spec_FilesOf.f impl_FilesOf.f
  cases hg : goodV nx lg sq ls with
  | false =>
    rw [hg] at h1 h2
    refine ⟨([], false), Ev.bind h1 ?_, Ev.bind h2 ?_, by simp⟩
    · simp only [Bool.false_eq_true, if_false]; exact Ev.now _
    · simp only [Bool.false_eq_true, if_false]; exact Ev.now _
  | true =>
    rw [hg] at h1 h2
    unfold goodV at hg
    simp only [Bool.and_eq_true, decide_eq_true_eq] at hg
    obtain ⟨g1, g2, g3, g4, g5⟩ := hg
    have hin := levels_in nx lg ls ls.length 0 [] (by omega) (by omega) g5
    rw [List.drop_zero] at hin
    have e := so_mergeSort (allFiles ls) nx hin
    refine ⟨((allFiles ls).mergeSort fun x y => decide (x ≤ y), true), Ev.bind h1 ?_, Ev.bind h2 ?_, ?_⟩
    · simp only [if_true]
      refine Ev.bind (a := so (allFiles ls) (nx - 1).toNat 1) ?_ (Ev_cast (Ev.now _) (by rw [e]))
      unfold spec_l9Files.f
      exact Ev_cast (spec_files_ev ls nx lg sq (by omega) (by omega) hr (nx - 1).toNat 1 [] rfl (by omega) (by simp)) (by simp)
    · simp only [if_true]
      refine Ev.bind ?_ (Ev.now _)
      unfold impl_Version_files.f
      exact Ev_cast (impl_files_ev ls (by omega) hr ls.length 0 [] (by omega) (by omega) (by simp)) (by simp)
    · rw [List.length_mergeSort]
      exact allFiles_len ls hr
theorem FnExactFilesOf : laws_FnExactFilesOf.Pure := by
  intro n1 n2 n3 l _ _ _ hl
  have hm : maxLen ≤ 9223372036854775807 := by decide
  obtain ⟨z, hz, hz2⟩ := szVersion_ev n1 n2 n3 l (by omega) (fun x hx => ⟨by have := (hl.2 x hx).1; omega, fun y hy => ⟨by have := ((hl.2 x hx).2 y hy).2.1; omega, by have := ((hl.2 x hx).2 y hy).2.2.1; omega⟩⟩)
  refine Ev.rounds ?_
  unfold laws_FnExactFilesOf.f
  refine Ev.bind hz ?_
  by_cases hn : z < 0
  · simp only [if_pos hn]; exact Ev.now _
  · simp only [if_neg hn]
    obtain ⟨hl2, hs⟩ := hz2.resolve_left hn
    have ht := toVersion_ev n1 n2 n3 l hl2 hs
    have h1 : (toV l).length ≤ 1048576 := by rw [toV_len]; exact hl2
    obtain ⟨r, e1, e2, hr⟩ := filesOf_both n1 n2 n3 (toV l) h1 (toV_rows l hs)
    have hrl : r.1.length ≤ 1152921504606846976 := by omega
    refine Ev.bind ht (Ev.bind e1 (Ev.bind ht (Ev.bind e2 ?_)))
    refine Ev.bind (eqIntS_same r.1 r.1 (by omega) rfl) ?_
    simp only [if_true, bne_self_eq_false]
    refine Ev_succ ?_
    simp only [laws_FnExactFilesOf.j0, Bool.false_eq_true, if_false]
    refine Ev.bind ht (Ev.bind (eqVersion_same _ _ _ _ h1 (toV_rows l hs)) ?_)
    simp only [if_true]
    obtain ⟨m, hm1, hm2⟩ := markVersion_ev2 n1 n2 n3 (toV l) h1 (toV_rows l hs)
    refine Ev.bind hm1 ?_
    simp only [if_neg (show ¬ m < 0 by omega)]
    refine Ev.bind (eqIntS_same r.1 r.1 (by omega) rfl) ?_
    simp only [if_true, bne_self_eq_false]
    refine Ev_succ ?_
    simp only [laws_FnExactFilesOf.j1, Bool.false_eq_true, if_false]
    refine Ev.bind (markIntS_ev r.1 1 hrl (by omega) (by omega)) ?_
    refine Ev.bind (heldIntS_ev 1 r.1.length hrl (by omega) (by omega)) ?_
    simp only [if_neg (show ¬ (1 : Int) + (r.1.length : Int) < 0 by omega), if_true]
    refine Ev.bind ht (Ev.bind e2 (Ev.bind (eqIntS_same r.1 r.1 (by omega) rfl) ?_))
    simp only [if_true, bne_self_eq_false]
    refine Ev_succ ?_
    simp only [laws_FnExactFilesOf.j2, Bool.false_eq_true, if_false]
    refine Ev.bind (heldIntS_ev 1 r.1.length hrl (by omega) (by omega)) ?_
    simp only [if_neg (show ¬ (1 : Int) + (r.1.length : Int) < 0 by omega), if_true]
    exact Ev.now _
end Go.Proofs.Ytefconminjiapaa.Pure
