/- Words of this session beside the print's: worlds that differ in one block alone, or in blocks of some types alone. -/
import Derived.Test.YtllmlnagihlokaaHw
set_option linter.unusedVariables false
namespace Go.Proofs.YtllmlnagihlokaaW.PrintWords
open Go.RowKit
structure On (g : Nat) (W V : World) : Prop where
  os : V.os = W.os
  tape : V.tape = W.tape
  output : V.output = W.output
  size : V.heap.size = W.heap.size
  far : ∀ i, i ≠ g → V.heap[i]? = W.heap[i]?
theorem On.refl (g : Nat) (W : World) : On g W W := ⟨rfl, rfl, rfl, rfl, fun _ _ => rfl⟩
theorem On.drew {g : Nat} {W V : World} (h : On g W V) : On g W V.drew := ⟨h.os, h.tape, h.output, h.size, h.far⟩
theorem On.drewN {g : Nat} {W V : World} (h : On g W V) (n : Nat) : On g W (V.drewN n) := ⟨h.os, h.tape, h.output, h.size, h.far⟩
theorem On.set {g : Nat} {W V : World} (h : On g W V) (j : Nat) (u : Value) : On g W (V.setCell ⟨g, j, none⟩ u) := by
  refine ⟨h.os, h.tape, h.output, ?_, fun i hi => ?_⟩
  · show (V.heap.modify g _).size = _
    rw [Array.size_modify]; exact h.size
  · refine Eq.trans ?_ (h.far i hi)
    show (V.heap.modify g _)[i]? = _
    rw [Array.getElem?_modify, if_neg (fun e => hi e.symm)]
theorem On.trans {g : Nat} {W V U : World} (h : On g W V) (k : On g V U) : On g W U := ⟨k.os.trans h.os, k.tape.trans h.tape, k.output.trans h.output, k.size.trans h.size, fun i hi => (k.far i hi).trans (h.far i hi)⟩
theorem On.blk {g i : Nat} {W V : World} {o : Obj} (h : On g W V) (hb : W.heap[i]? = some o) (hne : i ≠ g) : V.heap[i]? = some o := (h.far i hne).trans hb
theorem On.below {g : Nat} {w W V : World} (h : On g W V) (hB : Below w.heap.size w W) (hg : w.heap.size ≤ g) : Below w.heap.size w V :=
  ⟨h.os.trans hB.os, h.tape.trans hB.tape, h.output.trans hB.output, by rw [h.size]; exact hB.size, fun i hi => (h.far i (by omega)).trans (hB.block i hi)⟩
theorem On.R {α : Type} {d : Kd α} {e base g : Nat} {ok : Nat → Prop} {W V : World} {v : Value} {xs : List α} (h : On g W V) (ho : d.R e W base ok v xs) (hok : ∀ k, ok k → k ≠ g) : d.R e V base ok v xs := Kd.R_step ho (fun k hk _ => h.far k (hok k hk))
theorem On.Rt {α : Type} {d : Kd α} {e base g t : Nat} {ok : Nat → Prop} {W V : World} {v : Value} {xs : List α} {cs : Array Value} (h : On g W V) (ho : d.R e W base ok v xs) (hb : W.heap[g]? = some (.cells cs t (0, 0))) (ht : ∀ q, q ∈ e :: d.E → q ≠ t) : d.R e V base ok v xs := Kd.R_mono (h.R (Kd.R_types ho hb ht) (fun _ hk => hk.2)) (fun _ hk => hk.1)
theorem On.kept {g : Nat} {w W V : World} {S : Nat → Prop} (h : On g W V) (k : Kept w W S) (hg : S g ∨ w.heap.size ≤ g) : Kept w V S := ⟨by rw [h.size]; exact k.1, fun i hi hn => (h.far i (fun e => by subst e; rcases hg with h1 | h1; exact hn h1; omega)).trans (k.2 i hi hn)⟩
def setAll (W : World) (g : Nat) : Nat → List Value → World
  | _, [] => W
  | j, c :: cs => setAll (W.setCell ⟨g, j, none⟩ c) g (j + 1) cs
theorem setAll_on (g : Nat) : ∀ (cs : List Value) (j : Nat) (W : World), On g W (setAll W g j cs)
  | [], _, W => On.refl g W
  | c :: cs, j, W => ((On.refl g W).set j c).trans (setAll_on g cs (j + 1) _)
theorem setAll_blk' (g : Nat) {t : TypeId} : ∀ (cs : List Value) (W : World) (old : Array Value) (j : Nat), W.heap[g]? = some (.cells old t (0, 0)) → ∃ new : Array Value, (setAll W g j cs).heap[g]? = some (.cells new t (0, 0)) ∧ new.size = old.size ∧ (∀ i, i < j → new[i]? = old[i]?) ∧ ∀ i, j + i < old.size → i < cs.length → new[j + i]? = cs[i]?
  | [], W, old, j, hb => ⟨old, hb, rfl, fun _ _ => rfl, fun i _ hi => by simp at hi⟩
  | c :: cs, W, old, j, hb => by
    obtain ⟨new, h1, h2, h3, h4⟩ := setAll_blk' g cs (W.setCell ⟨g, j, none⟩ c) (old.setIfInBounds j c) (j + 1) (blk_set hb j c)
    rw [Array.size_setIfInBounds] at h2 h4
    refine ⟨new, h1, h2, fun i hi => ?_, fun i hi hl => ?_⟩
    · rw [h3 i (by omega), Array.getElem?_setIfInBounds, if_neg (by omega)]
    · cases i with
      | zero =>
        rw [Nat.add_zero, h3 j (by omega), Array.getElem?_setIfInBounds, if_pos rfl]
        simp; omega
      | succ i =>
        have := h4 i (by omega) (by simpa using hl)
        rw [show j + (i + 1) = j + 1 + i by omega, this]
        rfl
theorem setAll_blk {g : Nat} {t : TypeId} {W : World} {old : Array Value} (cs : List Value) (hb : W.heap[g]? = some (.cells old t (0, 0))) (hs : old.size = cs.length) : (setAll W g 0 cs).heap[g]? = some (.cells cs.toArray t (0, 0)) := by
  obtain ⟨new, h1, h2, _, h4⟩ := setAll_blk' g cs W old 0 hb
  have : new = cs.toArray := by
    apply Array.ext_getElem?
    intro i
    by_cases hi : i < cs.length
    · have := h4 i (by omega) hi
      rw [Nat.zero_add] at this
      rw [this]; simp
    · rw [Array.getElem?_eq_none (by omega), Array.getElem?_eq_none (by simp; omega)]
  rw [← this]; exact h1
structure Gr (g : Nat) (W V : World) : Prop where
  os : V.os = W.os
  tape : V.tape = W.tape
  output : V.output = W.output
  size : W.heap.size ≤ V.heap.size
  far : ∀ i, i < W.heap.size → i ≠ g → V.heap[i]? = W.heap[i]?
theorem Gr.refl (g : Nat) (W : World) : Gr g W W := ⟨rfl, rfl, rfl, Nat.le_refl _, fun _ _ _ => rfl⟩
theorem Gr.drew {g : Nat} {W V : World} (h : Gr g W V) : Gr g W V.drew := ⟨h.os, h.tape, h.output, h.size, h.far⟩
theorem Gr.drewN {g : Nat} {W V : World} (h : Gr g W V) (n : Nat) : Gr g W (V.drewN n) := ⟨h.os, h.tape, h.output, h.size, h.far⟩
theorem Gr.step {g : Nat} {W V U : World} (h : Gr g W V) (k : Below V.heap.size V U) : Gr g W U := ⟨k.os.trans h.os, k.tape.trans h.tape, k.output.trans h.output, Nat.le_trans h.size k.size, fun i hi hn => (k.block i (Nat.lt_of_lt_of_le hi h.size)).trans (h.far i hi hn)⟩
theorem Gr.alloc {g : Nat} {W V : World} (h : Gr g W V) (o : Obj) : Gr g W (V.alloc o) := h.step (below_alloc (Below.refl _ _) o)
theorem Gr.set {g : Nat} {W V : World} (h : Gr g W V) (j : Nat) (u : Value) : Gr g W (V.setCell ⟨g, j, none⟩ u) := by
  refine ⟨h.os, h.tape, h.output, ?_, fun i hi hn => (Below.heap_setCell V ⟨g, j, none⟩ u i hn).trans (h.far i hi hn)⟩
  show _ ≤ (V.heap.modify g _).size
  rw [Array.size_modify]; exact h.size
theorem Gr.trans {g : Nat} {W V U : World} (h : Gr g W V) (k : Gr g V U) : Gr g W U := ⟨k.os.trans h.os, k.tape.trans h.tape, k.output.trans h.output, Nat.le_trans h.size k.size, fun i hi hn => (k.far i (Nat.lt_of_lt_of_le hi h.size) hn).trans (h.far i hi hn)⟩
theorem Gr.blk {g i : Nat} {W V : World} {o : Obj} (h : Gr g W V) (hb : W.heap[i]? = some o) (hne : i ≠ g) : V.heap[i]? = some o := (h.far i (blk_lt hb) hne).trans hb
theorem Gr.below {g : Nat} {w W V : World} (h : Gr g W V) (hB : Below w.heap.size w W) (hg : w.heap.size ≤ g) : Below w.heap.size w V :=
  ⟨h.os.trans hB.os, h.tape.trans hB.tape, h.output.trans hB.output, Nat.le_trans hB.size h.size, fun i hi => (h.far i (Nat.lt_of_lt_of_le hi hB.size) (by omega)).trans (hB.block i hi)⟩
theorem Gr.Rt {α : Type} {d : Kd α} {e base g t : Nat} {ok : Nat → Prop} {W V : World} {v : Value} {xs : List α} {cs : Array Value} (h : Gr g W V) (ho : d.R e W base ok v xs) (hb : W.heap[g]? = some (.cells cs t (0, 0))) (ht : ∀ q, q ∈ e :: d.E → q ≠ t) : d.R e V base ok v xs :=
  Kd.R_mono (Kd.R_step (Kd.R_types ho hb ht) (fun k hk hlt => h.far k hlt hk.2)) (fun _ hk => hk.1)
structure FrT (ts : List TypeId) (w W : World) : Prop where
  size : w.heap.size ≤ W.heap.size
  blk : ∀ (i : Nat) (cells : Array Value) (t : TypeId), w.heap[i]? = some (.cells cells t (0, 0)) → t ∉ ts → W.heap[i]? = some (.cells cells t (0, 0))
theorem FrT.refl (ts : List TypeId) (w : World) : FrT ts w w := ⟨Nat.le_refl _, fun _ _ _ h _ => h⟩
theorem FrT.drew {ts : List TypeId} {w W : World} (h : FrT ts w W) : FrT ts w W.drew := ⟨h.size, h.blk⟩
theorem FrT.drewN {ts : List TypeId} {w W : World} (h : FrT ts w W) (n : Nat) : FrT ts w (W.drewN n) := ⟨h.size, h.blk⟩
theorem FrT.trans {ts : List TypeId} {w W V : World} (h : FrT ts w W) (k : FrT ts W V) : FrT ts w V := ⟨Nat.le_trans h.size k.size, fun i c t hc h1 => k.blk i c t (h.blk i c t hc h1) h1⟩
theorem FrT.below {ts : List TypeId} {w W V : World} (h : FrT ts w W) (k : Below W.heap.size W V) : FrT ts w V := h.trans ⟨k.size, fun i c t hc _ => blk_below hc k⟩
theorem FrT.alloc {ts : List TypeId} {w W : World} (h : FrT ts w W) (o : Obj) : FrT ts w (W.alloc o) := h.below (below_alloc (Below.refl _ _) o)
theorem FrT.on {ts : List TypeId} {w W V : World} (h : FrT ts w W) {g : Nat} {t : TypeId} {cs : Array Value} (hb : W.heap[g]? = some (.cells cs t (0, 0))) (ht : t ∈ ts) (k : On g W V) : FrT ts w V := by
  refine h.trans ⟨Nat.le_of_eq k.size.symm, fun i c t' hc h1 => k.blk hc (fun e => ?_)⟩
  subst e
  rw [hb] at hc
  injection hc with hc
  injection hc with _ hc
  exact h1 (hc ▸ ht)
theorem FrT.grown {α : Type} {d : Kd α} {ts : List TypeId} {w W V : World} (h : FrT ts w W) {e base : Nat} {ok : Nat → Prop} {v : Value} {xs : List α} (ho : d.R e W base ok v xs) (hg : W.grownBy V v.ownBlock) (ht : e ∈ ts) : FrT ts w V := by
  refine h.trans ⟨hg.size, fun i c t hc h1 => ?_⟩
  exact (hg.block i (blk_lt hc) (fun e2 => Kd.R_ne ho hc (fun e3 => h1 (e3 ▸ ht)) e2)).trans hc
theorem FrT.read {α : Type} {d : Kd α} (hE : d.E = []) {ts : List TypeId} {w W : World} (h : FrT ts w W) {e base n c : Nat} {ok : Nat → Prop} {A : Option Addr} {xs : List α} (ho : d.R e w base ok (.slice A n c) xs) (he : e ∉ ts) : d.C W A xs.length xs := by
  refine (Kd.R_reads' (Kd.R_move (Kd.R_tight hE ho) (fun k hk => ?_))).2.2
  obtain ⟨inner, hi⟩ := Kd.R_own ho
  obtain ⟨cells, hc⟩ := own_typed hi k hk.symm
  rw [hc]
  exact h.blk k cells e hc he
def Mine (a : Nat) (W : World) (ts : List TypeId) (k : Nat) : Prop := a ≤ k ∧ k < W.heap.size ∧ ∃ q, q ∈ ts ∧ ∃ cells fz, W.heap[k]? = some (.cells cells q fz)
theorem mine_of {a : Nat} {W : World} {ts : List TypeId} {k : Nat} (h : a ≤ k ∧ k < W.heap.size ∧ ∃ q, q ∈ ts ∧ ∃ cells, W.heap[k]? = some (.cells cells q (0, 0))) : Mine a W ts k := ⟨h.1, h.2.1, h.2.2.imp fun _ hq => ⟨hq.1, hq.2.imp fun _ hc => ⟨_, hc⟩⟩⟩
theorem mineR {α : Type} {d : Kd α} {e b : Nat} {ok : Nat → Prop} {W : World} {v : Value} {xs : List α} (h : d.R e W b ok v xs) {a lo : Nat} (ha : b = a) (hl : lo ≤ b) : d.R e W lo (Mine a W (e :: d.E)) v xs := by
  subst ha; exact Kd.R_lower (Kd.R_mono (Kd.R_bound h) (fun _ hk => mine_of hk.2)) hl
theorem On.St {α : Type} {d : Kd α} {e base g t : Nat} {ok : Nat → Prop} {W V : World} {v : Value} {xs : List α} {cs : Array Value} (h : On g W V) (ho : Kd.S d e W base ok v xs) (hb : W.heap[g]? = some (.cells cs t (0, 0))) (ht : ∀ q, q ∈ e :: d.E → q ≠ t) : Kd.S d e V base ok v xs :=
  Kd.S_mono (Kd.S_step (Kd.S_types ho hb ht) (fun k hk _ => h.far k hk.2)) (fun _ hk => hk.1)
theorem On.Qt {α : Type} {d : Kd α} {e base g t : Nat} {ok : Nat → Prop} {W V : World} {v : Value} {xs : List α} {cs : Array Value} (h : On g W V) (ho : d.Q e W base ok v xs) (hb : W.heap[g]? = some (.cells cs t (0, 0))) (ht : ∀ q, q ∈ e :: d.E → q ≠ t) : d.Q e V base ok v xs :=
  Kd.Q_mono (Kd.Q_step (Kd.Q_types ho hb ht) (fun k hk _ => h.far k hk.2)) (fun _ hk => hk.1)
structure MvA (W V : World) : Prop where
  below : Below W.heap.size W V
theorem MvA.refl (W : World) : MvA W W := ⟨Below.refl _ _⟩
theorem MvA.drew {W V : World} (h : MvA W V) : MvA W V.drew := ⟨below_drew1 h.below⟩
theorem MvA.drewN {W V : World} (h : MvA W V) (n : Nat) : MvA W (V.drewN n) := ⟨pw_below_drewN h.below n⟩
theorem MvA.alloc {W V : World} (h : MvA W V) (o : Obj) : MvA W (V.alloc o) := ⟨below_alloc h.below o⟩
structure MvS (b : Nat) (W V : World) : Prop where
  size : W.heap.size ≤ V.heap.size
  far : ∀ i, i < W.heap.size → i ≠ b → V.heap[i]? = W.heap[i]?
theorem MvS.refl (b : Nat) (W : World) : MvS b W W := ⟨Nat.le_refl _, fun _ _ _ => rfl⟩
theorem MvS.drew {b : Nat} {W V : World} (h : MvS b W V) : MvS b W V.drew := ⟨h.size, h.far⟩
theorem MvS.drewN {b : Nat} {W V : World} (h : MvS b W V) (n : Nat) : MvS b W (V.drewN n) := ⟨h.size, h.far⟩
theorem MvS.alloc {b : Nat} {W V : World} (h : MvS b W V) (o : Obj) : MvS b W (V.alloc o) := by
  have k := below_alloc (Below.refl V.heap.size V) o
  exact ⟨Nat.le_trans h.size k.size, fun i hi hn => (k.block i (Nat.lt_of_lt_of_le hi h.size)).trans (h.far i hi hn)⟩
theorem MvS.set {b : Nat} {W V : World} (h : MvS b W V) (j : Nat) (u : Value) : MvS b W (V.setCell ⟨b, j, none⟩ u) := by
  refine ⟨?_, fun i hi hn => (Below.heap_setCell V ⟨b, j, none⟩ u i hn).trans (h.far i hi hn)⟩
  show _ ≤ (V.heap.modify b _).size
  rw [Array.size_modify]; exact h.size
structure MvB (w : World) (W V : World) : Prop where
  mk' :: (out : Below w.heap.size w W → Below w.heap.size w V)
theorem MvB.refl (w W : World) : MvB w W W := ⟨id⟩
theorem MvB.drew {w W V : World} (h : MvB w W V) : MvB w W V.drew := ⟨fun k => below_drew1 (h.out k)⟩
theorem MvB.drewN {w W V : World} (h : MvB w W V) (n : Nat) : MvB w W (V.drewN n) := ⟨fun k => pw_below_drewN (h.out k) n⟩
theorem MvB.alloc {w W V : World} (h : MvB w W V) (o : Obj) : MvB w W (V.alloc o) := ⟨fun k => below_alloc (h.out k) o⟩
theorem MvB.set {w W V : World} (h : MvB w W V) {b : Nat} (hb : Aside0 (w.heap.size ≤ b)) (j : Nat) (u : Value) : MvB w W (V.setCell ⟨b, j, none⟩ u) := ⟨fun k => below_set (h.out k) hb.out⟩
theorem bK {W V : World} {g : Nat} {o : Obj} (h : W.heap[g]? = some o) (hm : MvA W V := by (with_reducible repeat (first | exact MvA.refl _ | apply MvA.drewN | apply MvA.drew | apply MvA.alloc))) : V.heap[g]? = some o := blk_below h hm.below
theorem bF {W V : World} {g b : Nat} {o : Obj} (h : W.heap[g]? = some o) (hn : g ≠ b) (hm : MvS b W V := by (with_reducible repeat (first | exact MvS.refl _ _ | apply MvS.drewN | apply MvS.drew | apply MvS.alloc | apply MvS.set))) : V.heap[g]? = some o := (hm.far g (blk_lt h) hn).trans h
theorem rK {α : Type} {d : Kd α} {e base : Nat} {ok : Nat → Prop} {W V : World} {v : Value} {xs : List α} (h : d.R e W base ok v xs) (hm : MvA W V := by (with_reducible repeat (first | exact MvA.refl _ | apply MvA.drewN | apply MvA.drew | apply MvA.alloc))) : d.R e V base ok v xs := Kd.R_below h hm.below
theorem rS {α : Type} {d : Kd α} {e base b t : Nat} {ok : Nat → Prop} {W V : World} {v : Value} {xs : List α} {cs : Array Value} (h : d.R e W base ok v xs) (hb : W.heap[b]? = some (.cells cs t (0, 0))) (ht : ∀ q, q ∈ e :: d.E → q ≠ t := by decide) (hm : MvS b W V := by (with_reducible repeat (first | exact MvS.refl _ _ | apply MvS.drewN | apply MvS.drew | apply MvS.alloc | apply MvS.set))) : d.R e V base ok v xs :=
  Kd.R_mono (Kd.R_step (Kd.R_types h hb ht) (fun k hk hlt => hm.far k hlt hk.2)) (fun _ hk => hk.1)
theorem bL {w W V : World} (h : Below w.heap.size w W) (hm : MvB w W V := by (with_reducible repeat (first | exact MvB.refl _ _ | apply MvB.drewN | apply MvB.drew | apply MvB.alloc | refine MvB.set ?_ (by assumption) _ _))) : Below w.heap.size w V := hm.out h
abbrev Q2 (w : World) (g : Nat) (a b : Value) (q : Prop) : Prop := w.cell? ⟨g, 0, none⟩ = some a ∧ w.cell? ⟨g, 1, none⟩ = some b ∧ q
theorem c2 {W : World} {g : Nat} {t : TypeId} {a b : Value} (h : W.heap[g]? = some (.cells #[a, b] t (0, 0))) : W.cell? ⟨g, 0, none⟩ = some a ∧ W.cell? ⟨g, 1, none⟩ = some b := ⟨(blk_cell h 0).trans rfl, (blk_cell h 1).trans rfl⟩
theorem q2 {W : World} {g : Nat} {t : TypeId} {a b : Value} {q : Prop} (h : W.heap[g]? = some (.cells #[a, b] t (0, 0))) (hq : q) : Q2 W g a b q := ⟨(blk_cell h 0).trans rfl, (blk_cell h 1).trans rfl, hq⟩
theorem f2 {W : World} {g : Nat} {t : TypeId} {cs : Array Value} (h : W.heap[g]? = some (.cells cs t (0, 0))) : W.frozen? ⟨g, 0, none⟩ = false ∧ W.frozen? ⟨g, 1, none⟩ = false := ⟨blk_frozen h 0, blk_frozen h 1⟩
theorem p2 {W : World} {g : Nat} {t : TypeId} {a b x0 x1 : Value} (h : W.heap[g]? = some (.cells #[a, b] t (0, 0))) : ((W.setCell ⟨g, 0, none⟩ x0).setCell ⟨g, 1, none⟩ x1).heap[g]? = some (.cells #[x0, x1] t (0, 0)) := blk_put (blk_put h 0 x0 rfl) 1 x1 rfl
abbrev Q3 (w : World) (g : Nat) (a b c : Value) (q : Prop) : Prop := w.cell? ⟨g, 0, none⟩ = some a ∧ w.cell? ⟨g, 1, none⟩ = some b ∧ w.cell? ⟨g, 2, none⟩ = some c ∧ q
theorem c3 {W : World} {g : Nat} {t : TypeId} {a b c : Value} (h : W.heap[g]? = some (.cells #[a, b, c] t (0, 0))) : W.cell? ⟨g, 0, none⟩ = some a ∧ W.cell? ⟨g, 1, none⟩ = some b ∧ W.cell? ⟨g, 2, none⟩ = some c := ⟨(blk_cell h 0).trans rfl, (blk_cell h 1).trans rfl, (blk_cell h 2).trans rfl⟩
theorem q3 {W : World} {g : Nat} {t : TypeId} {a b c : Value} {q : Prop} (h : W.heap[g]? = some (.cells #[a, b, c] t (0, 0))) (hq : q) : Q3 W g a b c q := ⟨(blk_cell h 0).trans rfl, (blk_cell h 1).trans rfl, (blk_cell h 2).trans rfl, hq⟩
theorem f3 {W : World} {g : Nat} {t : TypeId} {cs : Array Value} (h : W.heap[g]? = some (.cells cs t (0, 0))) : W.frozen? ⟨g, 0, none⟩ = false ∧ W.frozen? ⟨g, 1, none⟩ = false ∧ W.frozen? ⟨g, 2, none⟩ = false := ⟨blk_frozen h 0, blk_frozen h 1, blk_frozen h 2⟩
theorem p3 {W : World} {g : Nat} {t : TypeId} {a b c x0 x1 x2 : Value} (h : W.heap[g]? = some (.cells #[a, b, c] t (0, 0))) : (((W.setCell ⟨g, 0, none⟩ x0).setCell ⟨g, 1, none⟩ x1).setCell ⟨g, 2, none⟩ x2).heap[g]? = some (.cells #[x0, x1, x2] t (0, 0)) := blk_put (blk_put (blk_put h 0 x0 rfl) 1 x1 rfl) 2 x2 rfl
abbrev Q4 (w : World) (g : Nat) (a b c d : Value) (q : Prop) : Prop := w.cell? ⟨g, 0, none⟩ = some a ∧ w.cell? ⟨g, 1, none⟩ = some b ∧ w.cell? ⟨g, 2, none⟩ = some c ∧ w.cell? ⟨g, 3, none⟩ = some d ∧ q
theorem c4 {W : World} {g : Nat} {t : TypeId} {a b c d : Value} (h : W.heap[g]? = some (.cells #[a, b, c, d] t (0, 0))) : W.cell? ⟨g, 0, none⟩ = some a ∧ W.cell? ⟨g, 1, none⟩ = some b ∧ W.cell? ⟨g, 2, none⟩ = some c ∧ W.cell? ⟨g, 3, none⟩ = some d := ⟨(blk_cell h 0).trans rfl, (blk_cell h 1).trans rfl, (blk_cell h 2).trans rfl, (blk_cell h 3).trans rfl⟩
theorem q4 {W : World} {g : Nat} {t : TypeId} {a b c d : Value} {q : Prop} (h : W.heap[g]? = some (.cells #[a, b, c, d] t (0, 0))) (hq : q) : Q4 W g a b c d q := ⟨(blk_cell h 0).trans rfl, (blk_cell h 1).trans rfl, (blk_cell h 2).trans rfl, (blk_cell h 3).trans rfl, hq⟩
theorem f4 {W : World} {g : Nat} {t : TypeId} {cs : Array Value} (h : W.heap[g]? = some (.cells cs t (0, 0))) : W.frozen? ⟨g, 0, none⟩ = false ∧ W.frozen? ⟨g, 1, none⟩ = false ∧ W.frozen? ⟨g, 2, none⟩ = false ∧ W.frozen? ⟨g, 3, none⟩ = false := ⟨blk_frozen h 0, blk_frozen h 1, blk_frozen h 2, blk_frozen h 3⟩
theorem p4 {W : World} {g : Nat} {t : TypeId} {a b c d x0 x1 x2 x3 : Value} (h : W.heap[g]? = some (.cells #[a, b, c, d] t (0, 0))) : ((((W.setCell ⟨g, 0, none⟩ x0).setCell ⟨g, 1, none⟩ x1).setCell ⟨g, 2, none⟩ x2).setCell ⟨g, 3, none⟩ x3).heap[g]? = some (.cells #[x0, x1, x2, x3] t (0, 0)) := blk_put (blk_put (blk_put (blk_put h 0 x0 rfl) 1 x1 rfl) 2 x2 rfl) 3 x3 rfl
abbrev Q5 (w : World) (g : Nat) (a b c d e : Value) (q : Prop) : Prop := w.cell? ⟨g, 0, none⟩ = some a ∧ w.cell? ⟨g, 1, none⟩ = some b ∧ w.cell? ⟨g, 2, none⟩ = some c ∧ w.cell? ⟨g, 3, none⟩ = some d ∧ w.cell? ⟨g, 4, none⟩ = some e ∧ q
theorem c5 {W : World} {g : Nat} {t : TypeId} {a b c d e : Value} (h : W.heap[g]? = some (.cells #[a, b, c, d, e] t (0, 0))) : W.cell? ⟨g, 0, none⟩ = some a ∧ W.cell? ⟨g, 1, none⟩ = some b ∧ W.cell? ⟨g, 2, none⟩ = some c ∧ W.cell? ⟨g, 3, none⟩ = some d ∧ W.cell? ⟨g, 4, none⟩ = some e := ⟨(blk_cell h 0).trans rfl, (blk_cell h 1).trans rfl, (blk_cell h 2).trans rfl, (blk_cell h 3).trans rfl, (blk_cell h 4).trans rfl⟩
theorem q5 {W : World} {g : Nat} {t : TypeId} {a b c d e : Value} {q : Prop} (h : W.heap[g]? = some (.cells #[a, b, c, d, e] t (0, 0))) (hq : q) : Q5 W g a b c d e q := ⟨(blk_cell h 0).trans rfl, (blk_cell h 1).trans rfl, (blk_cell h 2).trans rfl, (blk_cell h 3).trans rfl, (blk_cell h 4).trans rfl, hq⟩
theorem f5 {W : World} {g : Nat} {t : TypeId} {cs : Array Value} (h : W.heap[g]? = some (.cells cs t (0, 0))) : W.frozen? ⟨g, 0, none⟩ = false ∧ W.frozen? ⟨g, 1, none⟩ = false ∧ W.frozen? ⟨g, 2, none⟩ = false ∧ W.frozen? ⟨g, 3, none⟩ = false ∧ W.frozen? ⟨g, 4, none⟩ = false := ⟨blk_frozen h 0, blk_frozen h 1, blk_frozen h 2, blk_frozen h 3, blk_frozen h 4⟩
theorem p5 {W : World} {g : Nat} {t : TypeId} {a b c d e x0 x1 x2 x3 x4 : Value} (h : W.heap[g]? = some (.cells #[a, b, c, d, e] t (0, 0))) : (((((W.setCell ⟨g, 0, none⟩ x0).setCell ⟨g, 1, none⟩ x1).setCell ⟨g, 2, none⟩ x2).setCell ⟨g, 3, none⟩ x3).setCell ⟨g, 4, none⟩ x4).heap[g]? = some (.cells #[x0, x1, x2, x3, x4] t (0, 0)) := blk_put (blk_put (blk_put (blk_put (blk_put h 0 x0 rfl) 1 x1 rfl) 2 x2 rfl) 3 x3 rfl) 4 x4 rfl
abbrev Q6 (w : World) (g : Nat) (a b c d e f : Value) (q : Prop) : Prop := w.cell? ⟨g, 0, none⟩ = some a ∧ w.cell? ⟨g, 1, none⟩ = some b ∧ w.cell? ⟨g, 2, none⟩ = some c ∧ w.cell? ⟨g, 3, none⟩ = some d ∧ w.cell? ⟨g, 4, none⟩ = some e ∧ w.cell? ⟨g, 5, none⟩ = some f ∧ q
theorem c6 {W : World} {g : Nat} {t : TypeId} {a b c d e f : Value} (h : W.heap[g]? = some (.cells #[a, b, c, d, e, f] t (0, 0))) : W.cell? ⟨g, 0, none⟩ = some a ∧ W.cell? ⟨g, 1, none⟩ = some b ∧ W.cell? ⟨g, 2, none⟩ = some c ∧ W.cell? ⟨g, 3, none⟩ = some d ∧ W.cell? ⟨g, 4, none⟩ = some e ∧ W.cell? ⟨g, 5, none⟩ = some f := ⟨(blk_cell h 0).trans rfl, (blk_cell h 1).trans rfl, (blk_cell h 2).trans rfl, (blk_cell h 3).trans rfl, (blk_cell h 4).trans rfl, (blk_cell h 5).trans rfl⟩
theorem kc6 {W : World} {g : Nat} {t : TypeId} {a b c d e f : Value} (h : W.heap[g]? = some (.cells #[a, b, c, d, e, f] t (0, 0))) : W.cell? ⟨g, 0, none⟩ = some a ∧ W.cell? ⟨g, 1, none⟩ = some b ∧ W.cell? ⟨g, 2, none⟩ = some c ∧ W.cell? ⟨g, 3, none⟩ = some d ∧ W.cell? ⟨g, 4, none⟩ = some e ∧ W.cell? ⟨g, 5, none⟩ = some f := c6 h
theorem q6 {W : World} {g : Nat} {t : TypeId} {a b c d e f : Value} {q : Prop} (h : W.heap[g]? = some (.cells #[a, b, c, d, e, f] t (0, 0))) (hq : q) : Q6 W g a b c d e f q := ⟨(blk_cell h 0).trans rfl, (blk_cell h 1).trans rfl, (blk_cell h 2).trans rfl, (blk_cell h 3).trans rfl, (blk_cell h 4).trans rfl, (blk_cell h 5).trans rfl, hq⟩
theorem f6 {W : World} {g : Nat} {t : TypeId} {cs : Array Value} (h : W.heap[g]? = some (.cells cs t (0, 0))) : W.frozen? ⟨g, 0, none⟩ = false ∧ W.frozen? ⟨g, 1, none⟩ = false ∧ W.frozen? ⟨g, 2, none⟩ = false ∧ W.frozen? ⟨g, 3, none⟩ = false ∧ W.frozen? ⟨g, 4, none⟩ = false ∧ W.frozen? ⟨g, 5, none⟩ = false := ⟨blk_frozen h 0, blk_frozen h 1, blk_frozen h 2, blk_frozen h 3, blk_frozen h 4, blk_frozen h 5⟩
theorem kf6 {W : World} {g : Nat} {t : TypeId} {cs : Array Value} (h : W.heap[g]? = some (.cells cs t (0, 0))) : W.frozen? ⟨g, 0, none⟩ = false ∧ W.frozen? ⟨g, 1, none⟩ = false ∧ W.frozen? ⟨g, 2, none⟩ = false ∧ W.frozen? ⟨g, 3, none⟩ = false ∧ W.frozen? ⟨g, 4, none⟩ = false ∧ W.frozen? ⟨g, 5, none⟩ = false := f6 h
theorem p6 {W : World} {g : Nat} {t : TypeId} {a b c d e f x0 x1 x2 x3 x4 x5 : Value} (h : W.heap[g]? = some (.cells #[a, b, c, d, e, f] t (0, 0))) : ((((((W.setCell ⟨g, 0, none⟩ x0).setCell ⟨g, 1, none⟩ x1).setCell ⟨g, 2, none⟩ x2).setCell ⟨g, 3, none⟩ x3).setCell ⟨g, 4, none⟩ x4).setCell ⟨g, 5, none⟩ x5).heap[g]? = some (.cells #[x0, x1, x2, x3, x4, x5] t (0, 0)) := blk_put (blk_put (blk_put (blk_put (blk_put (blk_put h 0 x0 rfl) 1 x1 rfl) 2 x2 rfl) 3 x3 rfl) 4 x4 rfl) 5 x5 rfl
theorem nL {W : World} {a b : Nat} {o : Obj} (hg : b = W.heap.size) (h : W.heap[a]? = some o) : a ≠ b := hg ▸ Nat.ne_of_lt (blk_lt h)
theorem nR {W : World} {a b : Nat} {o : Obj} (hg : b = W.heap.size) (h : W.heap[a]? = some o) : b ≠ a := hg ▸ Nat.ne_of_gt (blk_lt h)
theorem sL {w W : World} {b : Nat} (hg : b = W.heap.size) (h : Below w.heap.size w W) : w.heap.size ≤ b := hg ▸ below_size h
theorem cK {α : Type} {d : Kd α} {W V : World} {A : Option Addr} {n : Nat} {xs : List α} (h : d.C W A n xs) (hm : MvA W V := by (with_reducible repeat (first | exact MvA.refl _ | apply MvA.drewN | apply MvA.drew | apply MvA.alloc))) : d.C V A n xs := Kd.C_below h hm.below
theorem A0 {p : Prop} (h : p) : Aside0 p := ⟨h⟩
theorem mK {p : Prop} (h : p) : Aside0 p := ⟨h⟩
section
open Go.Proofs.YtllmlnagihlokaaW.PrintLast
theorem gL {P : Program} {ops : Array Oper} {Q : Exit → Act → World → Prop} {rest : List Oper} {oi : Oper} {a : Act} {w : World} (N : Option Tmp) {f : FuncId} {fn : Func} {as : Array Operand} {ts : Array TypeId} (hf : P.funcs[f]? = some fn) (args : Array Value)
    (h : Calls P f args w fun e w' => ∃ v, e = .returned v ∧ wpList P ops Q rest (a.put N v) w') (hd : oi.dst = N := by rfl) (hg : oi.guard = none := by rfl) (hname : (fn.name == "runtime.NumGoroutine") = false := by kernel_rfl) (hb : fn.body.isSome = true := by rfl)
    (hop : oi.op = .call { callee := .value (.func f), args := as, argTypes := ts } := by rfl) (hargs : as.map a.eval = args := by (try simp only [List.map_toArray, List.map_cons, List.map_nil]); first | done | rfl | (simp only [List.length_drop, List.length_take]; rfl)) : wpList P ops Q (oi :: rest) a w :=
  goesL_ N hd hg hf hname hb args hop hargs h
end
end Go.Proofs.YtllmlnagihlokaaW.PrintWords

