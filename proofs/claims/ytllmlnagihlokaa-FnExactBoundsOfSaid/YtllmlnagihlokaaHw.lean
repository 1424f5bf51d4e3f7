/- Words of this session beside the print's: a text's bytes as a new row that is read. -/
import Derived.Test.YtllmlnagihlokaaWMore
import Derived.Lib.ConvBytes
import Derived.WalkSpells
set_option linter.unusedVariables false
namespace Go.Proofs.YtllmlnagihlokaaW.PrintWords
open Go.RowKit
theorem bytesWorld_below (w : World) (e : TypeId) (s : ByteArray) : Below w.heap.size w (Lib.bytesWorld w e s) := by
  have h0 : Below w.heap.size w (w.drew.alloc (.cells (Lib.bytesCells w e s) e)) := ((Below.refl w.heap.size w).drew).alloc (by simp) _
  refine ⟨h0.os, h0.tape, h0.output, ?_, fun i hi => Lib.bytesWorld_at_old w e s i hi⟩
  rw [Lib.bytesWorld_size]; omega
theorem conv_bytes {P : Program} (w : World) (src dst e : TypeId) (s : ByteArray) {u : TypeDesc} (hs : P.underlying src = some u) (hd : P.underlying dst = some (.slice e)) (he : P.underlying e = some (.int .u8)) (hl : s.size ≤ 9223372036854775807) :
    ∃ (W1 : World) (c : Nat), (convert src dst (.string s)).run P w = .ok (.slice (some ⟨w.heap.size, 0, none⟩) s.size c) W1 ∧ Below w.heap.size w W1 ∧ Kd.C (Kd.int .u8) W1 (some ⟨w.heap.size, 0, none⟩) s.size (bytesOf s) := by
  refine ⟨_, _, Lib.run_convert_string_bytes w src dst e s hs hd he, bytesWorld_below w e s, bytesOf_length s, hl, fun _ => ⟨_, rfl, fun j p hj => ⟨[.int .u8 p], rfl, rfl, fun i u hi => ?_⟩⟩⟩
  cases i with
  | succ i => simp at hi
  | zero =>
    have hjl : j < s.size := by have := (List.getElem?_eq_some_iff.1 hj).1; rwa [bytesOf_length] at this
    have hu : u = .int .u8 p := by simpa using hi.symm
    subst hu
    have := Lib.bytesWorld_cell w e s j hjl
    rw [show (Kd.int .u8).sz = 1 from rfl, Nat.mul_one, Nat.add_zero, add_plain, this]
    have hp : p = ((s.data.toList.getD j 0).toNat : Int) := by
      simp only [bytesOf, List.getElem?_map] at hj
      rw [List.getD_eq_getElem?_getD]
      cases h : s.data.toList[j]? with
      | none => simp [h] at hj
      | some b => simp [h] at hj; simp [← hj]
    rw [hp]
theorem bytesLess_tri : ∀ a b : List UInt8, (Op.bytesLess a b || a == b) = !(Op.bytesLess b a) := by
  intro a
  induction a with
  | nil => intro b; cases b <;> simp [Op.bytesLess]
  | cons x a ih =>
    intro b
    cases b with
    | nil => simp [Op.bytesLess]
    | cons y b =>
      have := ih b
      simp only [Op.bytesLess]
      by_cases h1 : x < y
      · have h2 : ¬ y < x := fun h => absurd (UInt8.lt_trans h1 h) (UInt8.lt_irrefl _)
        have h3 : ¬ y = x := fun h => by rw [h] at h1; exact UInt8.lt_irrefl _ h1
        simp [h1, h2, h3]
      · by_cases h2 : y < x
        · have h3 : ¬ x = y := fun h => by rw [h] at h2; exact UInt8.lt_irrefl _ h2
          simp [h1, h2, h3]
        · have h3 : x = y := UInt8.le_antisymm (UInt8.not_lt.1 h2) (UInt8.not_lt.1 h1)
          subst h3
          simp only [UInt8.lt_irrefl, decide_false, Bool.false_or, beq_self_eq_true, Bool.true_and]
          rw [← this]
          simp [List.cons_beq_cons]
theorem hw_string_geq (t : TypeId) (a b : ByteArray) : binOp .geq t (.string a) (.string b) = pure (.bool (!(Op.bytesLess a.toList b.toList))) := by simp [binOp, Op.stringOp]
theorem hw_string_gtr (t : TypeId) (a b : ByteArray) : binOp .gtr t (.string a) (.string b) = pure (.bool (Op.bytesLess b.toList a.toList)) := by
  have h := bytesLess_tri a.toList b.toList
  simp only [binOp, Op.stringOp, h, Bool.not_not]
theorem hw_string_leq (t : TypeId) (a b : ByteArray) : binOp .leq t (.string a) (.string b) = pure (.bool (!(Op.bytesLess b.toList a.toList))) := by
  have h := bytesLess_tri a.toList b.toList
  simp only [binOp, Op.stringOp, h]
end Go.Proofs.YtllmlnagihlokaaW.PrintWords

