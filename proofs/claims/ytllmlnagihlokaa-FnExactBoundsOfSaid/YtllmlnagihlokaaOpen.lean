/- Arguments laid open: from the form's reading of an argument to the kinds' own words, whatever it is made of. Written by a session of this work. -/
import Derived.Test.YtllmlnagihlokaaWMore
import Derived.WalkKit
import Derived.ProofKit
import Derived.OpenShut
import Derived.ShutString
import Derived.ChangeOld
import Derived.Below
import Derived.Deep.Slices
import Derived.Deep.Fields
import Derived.ChangeSame
namespace Go.Proofs.Ytllmlnagihlokaa.Open
open Go.ChangeShapes Go.WideShapes Go.ChangeAt Go.RowKit Go.Deep
open Go.Proofs.YtllmlnagihlokaaW.PrintWords
set_option linter.unusedVariables false
section
variable {H : Type} {enc : TypeId × Value → H} {P : Program} {w : World}
/-- Whatever is read at type t is some value that R tells. -/
def Opens {α : Type} (enc : TypeId × Value → H) (P : Program) (w : World) (t : TypeId) (R : α → List Value → Prop) : Prop :=
  ∀ (fuel : Nat) (cs : List Value) (x : DataW H × List MemPlace), DataW.trod enc P w 0 (fun _ => true) true fuel t cs = some x → ∃ a, R a cs
theorem opens_int {t : TypeId} {k : IntKind} (ht : P.underlying t = some (.int k)) : Opens enc P w t (fun (n : Int) cs => (Kd.int k).K w n cs ∧ (Lit.int k n).wf = true) := by
  intro fuel cs x h
  obtain ⟨n, rfl, _, hw⟩ := DataW.trod_int ht h
  exact ⟨n, rfl, hw⟩
theorem opens_bool {t : TypeId} (ht : P.underlying t = some .bool) : Opens enc P w t (fun (b : Bool) cs => Kd.bool.K w b cs ∧ True) := by
  intro fuel cs x h
  obtain ⟨b, rfl, _⟩ := DataW.trod_bool ht h
  exact ⟨b, rfl, trivial⟩
theorem opens_string {t : TypeId} (ht : P.underlying t = some .string) : Opens enc P w t (fun (s : ByteArray) cs => Kd.string.K w s cs ∧ s.size ≤ maxLen) := by
  intro fuel cs x h
  obtain ⟨s, rfl, _, hs⟩ := DataW.trod_string ht h
  exact ⟨s, rfl, hs⟩
theorem opens_slice {α : Type} {d : Kd α} {G : α → Prop} {t e : TypeId} (ht : P.underlying t = some (.slice e)) (hC : P.cellsOf e = d.sz) (ho : Opens enc P w e (fun a cs => d.K w a cs ∧ G a)) :
    Opens enc P w t (fun (xs : List α) cs => (Kd.slice e d).K w xs cs ∧ (xs.length ≤ maxLen ∧ ∀ x ∈ xs, G x)) := by
  intro fuel cs x h
  rcases open_slice ht h with ⟨rfl, _⟩ | ⟨a, len, cap, m, n, D, Pl, rfl, _, hl, hm, hmm, _, hi⟩
  · refine ⟨[], ⟨none, 0, rfl, Nat.le_refl _, rfl, Nat.zero_le _, fun h0 => absurd h0 (by simp)⟩, Nat.zero_le _, fun x hx => by cases hx⟩
  · have hmc : m = cap := by simpa using hmm
    subst hmc
    have key : ∀ q, q ≤ len → ∃ xs : List α, xs.length = q ∧ (∀ j p, xs[j]? = some p → ∃ c, c.length = d.sz ∧ d.K w p c ∧ ∀ i u, c[i]? = some u → w.cell? (a.add (j * d.sz + i)) = some u) ∧ ∀ x ∈ xs, G x := by
      intro q
      induction q with
      | zero => exact fun _ => ⟨[], rfl, fun j p hj => by simp at hj, fun x hx => by cases hx⟩
      | succ q ih =>
        intro hq
        obtain ⟨xs, hxl, hxs, hg⟩ := ih (by omega)
        obtain ⟨cs', hc, ht'⟩ := hi q (by omega)
        rw [hC] at hc
        obtain ⟨y, hy, gy⟩ := ho _ _ _ ht'
        obtain ⟨_, hcl, hat⟩ := World.cells?_some hc
        refine ⟨xs ++ [y], by simp [hxl], fun j p hj => ?_, fun x hx => ?_⟩
        · by_cases hjq : j < q
          · exact hxs j p (by rwa [List.getElem?_append_left (by omega)] at hj)
          · have hjl : j < (xs ++ [y]).length := (List.getElem?_eq_some_iff.1 hj).1
            have hje : j = q := by simp at hjl; omega
            subst hje
            rw [List.getElem?_append_right (by omega), hxl, Nat.sub_self] at hj
            have hp : y = p := by simpa using hj
            subst hp
            refine ⟨cs', hcl, hy, fun i u hiu => ?_⟩
            have hil : i < cs'.length := (List.getElem?_eq_some_iff.1 hiu).1
            have := hat i (by omega)
            rw [Go.Deep.add_add] at this
            rw [this, hiu]
        · rcases List.mem_append.1 hx with hx | hx
          · exact hg x hx
          · rw [List.mem_singleton.1 hx]; exact gy
    obtain ⟨xs, hxl, hxs, hg⟩ := key len (Nat.le_refl _)
    subst hxl
    exact ⟨xs, ⟨some a, m, rfl, hl, rfl, by unfold maxLen at hm; omega, fun _ => ⟨a, rfl, hxs⟩⟩, by omega, hg⟩
theorem slice_K {α : Type} {d : Kd α} {e : TypeId} {xs : List α} {a : Option Addr} {len cap : Nat} (h : (Kd.slice e d).K w xs [.slice a len cap]) : len = xs.length ∧ xs.length ≤ cap ∧ d.C w a xs.length xs := by
  obtain ⟨A, c, hc, hl, hr⟩ := h
  simp only [List.cons.injEq, Value.slice.injEq, and_true] at hc
  obtain ⟨rfl, rfl, rfl⟩ := hc
  exact ⟨rfl, hl, hr⟩
theorem slice_K' {α : Type} {d : Kd α} {e : TypeId} {xs : List α} {v : Value} (h : (Kd.slice e d).K w xs [v]) : ∃ A c, v = .slice A xs.length c ∧ xs.length ≤ c ∧ d.C w A xs.length xs := by
  obtain ⟨A, c, hc, hl, hr⟩ := h
  exact ⟨A, c, by simpa using hc, hl, hr⟩
end
end Go.Proofs.Ytllmlnagihlokaa.Open
