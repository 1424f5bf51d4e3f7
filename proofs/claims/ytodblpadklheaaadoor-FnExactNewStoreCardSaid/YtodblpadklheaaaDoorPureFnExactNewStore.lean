/- The law FnExactNewStore answers true, for all quotas. -/
import Derived.Test.YtodblpadklheaaaDoorPFnExactNewStorex8
import Derived.Test.YtodblpadklheaaaDoorPFnExactNewStorex8
set_option linter.unusedVariables false
set_option linter.unusedSimpArgs false
namespace Go.Proofs.YtodblpadklheaaaDoor.Pure
open Go.RowKit Go.Proofs.YtodblpadklheaaaDoor.PFnExactNewStore Go.Proofs.YtodblpadklheaaaDoorW Go.Proofs.YtodblpadklheaaaDoorW.PrintWords Go.Proofs.YtodblpadklheaaaDoorW.PrintLast Go.Proofs.YtodblpadklheaaaDoorW.PrintMore
/-! ### FnExactNewStore: two answers, each evaluated -/
def nsFiles : List S97 := [⟨⟨#[108, 111, 103, 45, 49]⟩, [], 0⟩, ⟨⟨#[109, 97, 110, 105, 102, 101, 115, 116]⟩, [], 0⟩]
def nsLevels : List (List S152) := List.replicate 3 []
theorem ns_spec (a0 : Int) (h0 : a0 ≥ 0) (h1 : a0 ≤ 60000) : spec_NewStore.f 60 a0 = some (a0, nsFiles, 2, 1, 0, nsLevels, [], true) := by
  have e : spec_l1In.f a0 0 60000 = some true := by unfold spec_l1In.f; rw [if_pos h0, decide_eq_true h1]
  have e2 : spec_l10Log.f 60 1 = some ⟨#[108, 111, 103, 45, 49]⟩ := by decide +kernel
  have e3 : spec_l9First.f = some (2, 1, 0, nsLevels) := by rfl
  unfold spec_NewStore.f
  rw [e, Option.bind_some, if_pos rfl, e2, Option.bind_some, e3, Option.bind_some]
  rfl
theorem ns_impl (a0 : Int) (h0 : a0 ≥ 0) (h1 : a0 ≤ 60000) : impl_NewStore.f a0 = some (a0, nsFiles, 2, 1, 0, nsLevels, [], true) := by
  have e : impl_within.f a0 0 60000 = some true := by unfold impl_within.f; rw [if_pos h0, decide_eq_true h1]
  have e2 : impl_logName.f 1 = some ⟨#[108, 111, 103, 45, 49]⟩ := by decide +kernel
  have e3 : impl_FirstVersion.f = some (2, 1, 0, nsLevels) := by rfl
  unfold impl_NewStore.f
  rw [e, Option.bind_some, if_pos rfl, e2, Option.bind_some, e3, Option.bind_some]
  rfl
theorem ns_spec0 (a0 : Int) (h : ¬ (a0 ≥ 0 ∧ a0 ≤ 60000)) : spec_NewStore.f 60 a0 = some (0, [], 0, 0, 0, [], [], false) := by
  have e : spec_l1In.f a0 0 60000 = some false := by
    unfold spec_l1In.f
    by_cases h0 : a0 ≥ 0
    · rw [if_pos h0, decide_eq_false (fun h1 => h ⟨h0, h1⟩)]
    · rw [if_neg h0]
  unfold spec_NewStore.f
  rw [e, Option.bind_some, if_neg (by decide)]
theorem ns_impl0 (a0 : Int) (h : ¬ (a0 ≥ 0 ∧ a0 ≤ 60000)) : impl_NewStore.f a0 = some (0, [], 0, 0, 0, [], [], false) := by
  have e : impl_within.f a0 0 60000 = some false := by
    unfold impl_within.f
    by_cases h0 : a0 ≥ 0
    · rw [if_pos h0, decide_eq_false (fun h1 => h ⟨h0, h1⟩)]
    · rw [if_neg h0]
  unfold impl_NewStore.f
  rw [e, Option.bind_some, if_neg (by decide)]
def nsMarked : List S97 := [⟨⟨#[109, 49]⟩, [], 2⟩, ⟨⟨#[109, 51]⟩, [], 4⟩]
theorem ns_eq (a0 : Int) : laws_eqStore.f 60 a0 nsFiles 2 1 0 nsLevels [] a0 nsFiles 2 1 0 nsLevels [] = some true := by
  unfold laws_eqStore.f laws_eqFiles.f
  rw [if_pos rfl]
  decide +kernel
theorem ns_mark (a0 : Int) : laws_markStore.f 60 a0 nsFiles 2 1 0 nsLevels [] 1 = some (5, nsMarked, nsLevels) := by
  have e : laws_markFileS.f 60 nsFiles 1 = some (5, nsMarked) := by kernel_rfl
  have e2 : laws_markVersion.f 60 2 1 0 nsLevels 5 = some (5, nsLevels) := by kernel_rfl
  unfold laws_markStore.f laws_markFiles.f
  rw [e]
  simp only [Option.bind_some]
  rw [e2]
  rfl
theorem ns_held (a0 : Int) : laws_heldStore.f 60 a0 nsMarked 2 1 0 nsLevels [] 1 = some 5 := by
  have e : laws_heldFileS.f 60 nsMarked 1 = some 5 := by decide +kernel
  unfold laws_heldStore.f laws_heldFiles.f
  rw [e]
  decide +kernel
theorem FnExactNewStore : laws_FnExactNewStore.Pure := by
  intro a0 _
  refine ⟨60, ?_⟩
  unfold laws_FnExactNewStore.f
  by_cases h : a0 ≥ 0 ∧ a0 ≤ 60000
  · rw [ns_spec a0 h.1 h.2, ns_impl a0 h.1 h.2]
    simp only [Option.bind_some]
    rw [ns_eq a0, ns_mark a0]
    simp only [Option.bind_some]
    rw [ns_held a0]
    simp only [Option.bind_some]
    rw [if_pos (by decide)]
  · rw [ns_spec0 a0 h, ns_impl0 a0 h]
    decide +kernel
end Go.Proofs.YtodblpadklheaaaDoor.Pure
