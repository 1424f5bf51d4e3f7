/- Words of this session beside the print's: the steps of a region that draws its order, in short. -/
import Derived.Test.YtllmlnagihlokaaHr
import Derived.Tactics
import Derived.KernelRfl
set_option linter.unusedVariables false
namespace Go.Proofs.YtllmlnagihlokaaW.PrintLast
open Go.RowKit Go.Proofs.YtllmlnagihlokaaW.PrintWords
theorem sq_a {α : Type _} (l : List α) (i : Nat) (a : α) : l.toArray.setIfInBounds i a = (l.set i a).toArray := by simp
theorem sq_b {α : Type _} (x : α) (l : List α) (a : α) : (x :: l).set 0 a = a :: l := rfl
theorem sq_c {α : Type _} (x : α) (l : List α) (n : Nat) (a : α) : (x :: l).set (n + 1) a = x :: l.set n a := rfl
section
variable {P : Program} {ops : Array Oper} {Q : Exit → Act → World → Prop} {md : Region.Mode} {S : World → Prop} {ds : List Nat} {oi : Oper} {v : Value} {fuel : Nat} {l : Array Bool} {a a' : Act} {w : World}
theorem pu_ (i : Nat) (N : Tmp) (h : wpAnyLast P md ops Q S ds fuel (l.setIfInBounds i true) a' w)
    (hi : ops[i]? = some oi := by rfl) (hN : oi.dst = some N := by rfl) (hc : anyB md ops l (l.setIfInBounds i true) i = true := by kernel_rfl)
    (hQ : ∀ c a w, Q (.panic c) (a.put oi.dst v) w → Q (.panic c) a w := by exact fun _ _ _ h => h)
    (hy : Yields P ops oi v a := by first | (refine Or.inl ⟨by rfl, ?_⟩; intro w'; go_simp; with_reducible rfl) | exact Or.inr ⟨by rfl, rfl⟩)
    (ha : a.put (some N) v = a' := by (simp only [Act.put, sq_a, sq_b, sq_c, i64_w, i32_w]; rfl)) : wpAnyLast P md ops Q S ds (fuel + 1) l a w := pure_ _ hi hN hc hQ hy ha h
theorem tk_ (i : Nat) (N : Tmp) (hS : S w) (h : wpAnyLast P md ops Q S ds fuel (l.setIfInBounds i true) a' w)
    (hi : ops[i]? = some oi := by rfl) (hN : oi.dst = some N := by rfl) (hc : takeB md ops ds l (l.setIfInBounds i true) i = true := by kernel_rfl)
    (hQ : ∀ c a w, Q (.panic c) (a.put oi.dst v) w → Q (.panic c) a w := by exact fun _ _ _ h => h)
    (hy : YieldsIf P ops S oi v a := by first | (refine Or.inl ⟨by rfl, ?_⟩; intro w' hs_; (repeat (have _ := And.left hs_; replace hs_ := And.right hs_)); go_simp; with_reducible rfl) | exact Or.inr ⟨by rfl, rfl⟩)
    (ha : a.put (some N) v = a' := by (simp only [Act.put, sq_a, sq_b, sq_c, i64_w, i32_w]; rfl)) : wpAnyLast P md ops Q S ds (fuel + 1) l a w := take_ _ hi hN hc hQ hy hS ha h
theorem on_ (i : Nat) (N : Tmp) (h : ∀ K : Act → World → Prop, Shut (∀ a' w', S w' → (S w' → wpAnyLast P md ops Q S ds fuel (l.setIfInBounds i true) a' w') → K a' w') → if Region.wanted oi (yielded ops a.tmps) = true then Oper.wp P oi a w K Q else K (a.put (some N) undef) w)
    (hi : ops[i]? = some oi := by rfl) (hN : oi.dst = some N := by rfl) (hc : readyB md ops l (l.setIfInBounds i true) i = true := by kernel_rfl) (hd : i ∉ ds := by decide) : wpAnyLast P md ops Q S ds (fuel + 1) l a w := one_ _ hi hN hc hd h
theorem on0_ (i : Nat) (h : ∀ K : Act → World → Prop, Shut (∀ a' w', S w' → (S w' → wpAnyLast P md ops Q S ds fuel (l.setIfInBounds i true) a' w') → K a' w') → if Region.wanted oi (yielded ops a.tmps) = true then Oper.wp P oi a w K Q else K (a.put none undef) w)
    (hi : ops[i]? = some oi := by rfl) (hN : oi.dst = none := by rfl) (hc : readyB md ops l (l.setIfInBounds i true) i = true := by kernel_rfl) (hd : i ∉ ds := by decide) : wpAnyLast P md ops Q S ds (fuel + 1) l a w := one_ _ hi hN hc hd h
end
end Go.Proofs.YtllmlnagihlokaaW.PrintLast

namespace Go.Proofs.YtllmlnagihlokaaW.PrintWords
open Go.RowKit
theorem sE {α : Sort _} {a b : α} (h : a = b := by first | rfl | (simp; done) | (simp [*]; done) | (simp <;> rfl) | (simp [*] <;> rfl)) : a = b := h
theorem oD {p : Prop} [Decidable p] (h : decide p = true := by first | (with_reducible assumption) | assumption) : p := of_decide_eq_true h
theorem dR {w w' : World} (h : Drawn0 w w' := by repeat (first | exact Drawn0.refl _ | apply Drawn0.step)) : Drawn0 w w' := h
theorem snK {e : Nat} {w0 V0 W V : World} {L : List (Value × List Int)} {K : List (Nat × Obj)} (h : Sn e w0 V0 W L K) (hm : MvA W V := by (with_reducible repeat (first | exact MvA.refl _ | apply MvA.drewN | apply MvA.drew | apply MvA.alloc))) : Sn e w0 V0 V L K := h.step hm.below
end Go.Proofs.YtllmlnagihlokaaW.PrintWords

