-- Written for this claim by a program of this session: a scratch copy of the kit's print with patches of this session.
import Derived.Test.YtefconminjiapaaPFnExactFilesOfx0
import Derived.Test.YtefconminjiapaaPFnExactFilesOfx3
namespace Go.Proofs.Ytefconminjiapaa.PFnExactFilesOf
open Go.RowKit Go.Proofs.YtefconminjiapaaW.PrintWords Go.Proofs.YtefconminjiapaaW.PrintLast Go.Proofs.YtefconminjiapaaW.PrintMore
attribute [local go_sem] max2_int min2_int max_two min_two max_three min_three max_four min_four hw_string_geq hw_string_gtr hw_string_leq   -- for this text's walks alone
set_option linter.unusedVariables false
set_option linter.unusedSimpArgs false
abbrev bq4_0 : Array Bool := #[false, false, false, false, false, false, false, false, false, false, false, false, false, false, false, false, false, false, false, false, false, false, false, false, false, false, false, false, false, false, false, false, false, false, false, false]
abbrev bq4_1 : Array Bool := #[true, false, false, false, false, false, false, false, false, false, false, false, false, false, false, false, false, false, false, false, false, false, false, false, false, false, false, false, false, false, false, false, false, false, false, false]
abbrev bq4_2 : Array Bool := #[true, true, false, false, false, false, false, false, false, false, false, false, false, false, false, false, false, false, false, false, false, false, false, false, false, false, false, false, false, false, false, false, false, false, false, false]
abbrev bq4_3 : Array Bool := #[true, true, true, false, false, false, false, false, false, false, false, false, false, false, false, false, false, false, false, false, false, false, false, false, false, false, false, false, false, false, false, false, false, false, false, false]
abbrev bq4_4 : Array Bool := #[true, true, true, true, false, false, false, false, false, false, false, false, false, false, false, false, false, false, false, false, false, false, false, false, false, false, false, false, false, false, false, false, false, false, false, false]
abbrev bq4_5 : Array Bool := #[true, true, true, true, true, false, false, false, false, false, false, false, false, false, false, false, false, false, false, false, false, false, false, false, false, false, false, false, false, false, false, false, false, false, false, false]
abbrev bq4_6 : Array Bool := #[true, true, true, true, true, false, true, false, false, false, false, false, false, false, false, false, false, false, false, false, false, false, false, false, false, false, false, false, false, false, false, false, false, false, false, false]
abbrev bq4_7 : Array Bool := #[true, true, true, true, true, true, true, false, false, false, false, false, false, false, false, false, false, false, false, false, false, false, false, false, false, false, false, false, false, false, false, false, false, false, false, false]
abbrev bq4_8 : Array Bool := #[true, true, true, true, true, true, true, true, false, false, false, false, false, false, false, false, false, false, false, false, false, false, false, false, false, false, false, false, false, false, false, false, false, false, false, false]
abbrev bq4_9 : Array Bool := #[true, true, true, true, true, true, true, true, true, false, false, false, false, false, false, false, false, false, false, false, false, false, false, false, false, false, false, false, false, false, false, false, false, false, false, false]
abbrev bq4_10 : Array Bool := #[true, true, true, true, true, true, true, true, true, true, false, false, false, false, false, false, false, false, false, false, false, false, false, false, false, false, false, false, false, false, false, false, false, false, false, false]
abbrev bq4_11 : Array Bool := #[true, true, true, true, true, true, true, true, true, true, true, false, false, false, false, false, false, false, false, false, false, false, false, false, false, false, false, false, false, false, false, false, false, false, false, false]
abbrev bq4_12 : Array Bool := #[true, true, true, true, true, true, true, true, true, true, true, true, false, false, false, false, false, false, false, false, false, false, false, false, false, false, false, false, false, false, false, false, false, false, false, false]
abbrev bq4_13 : Array Bool := #[true, true, true, true, true, true, true, true, true, true, true, true, true, false, false, false, false, false, false, false, false, false, false, false, false, false, false, false, false, false, false, false, false, false, false, false]
abbrev bq4_14 : Array Bool := #[true, true, true, true, true, true, true, true, true, true, true, true, true, true, false, false, false, false, false, false, false, false, false, false, false, false, false, false, false, false, false, false, false, false, false, false]
abbrev bq4_15 : Array Bool := #[true, true, true, true, true, true, true, true, true, true, true, true, true, true, true, false, false, false, false, false, false, false, false, false, false, false, false, false, false, false, false, false, false, false, false, false]
abbrev bq4_16 : Array Bool := #[true, true, true, true, true, true, true, true, true, true, true, true, true, true, true, true, false, false, false, false, false, false, false, false, false, false, false, false, false, false, false, false, false, false, false, false]
abbrev bq4_17 : Array Bool := #[true, true, true, true, true, true, true, true, true, true, true, true, true, true, true, true, true, false, false, false, false, false, false, false, false, false, false, false, false, false, false, false, false, false, false, false]
abbrev bq4_18 : Array Bool := #[true, true, true, true, true, true, true, true, true, true, true, true, true, true, true, true, true, true, false, false, false, false, false, false, false, false, false, false, false, false, false, false, false, false, false, false]
abbrev bq4_19 : Array Bool := #[true, true, true, true, true, true, true, true, true, true, true, true, true, true, true, true, true, true, true, false, false, false, false, false, false, false, false, false, false, false, false, false, false, false, false, false]
abbrev bq4_20 : Array Bool := #[true, true, true, true, true, true, true, true, true, true, true, true, true, true, true, true, true, true, true, true, false, false, false, false, false, false, false, false, false, false, false, false, false, false, false, false]
abbrev bq4_21 : Array Bool := #[true, true, true, true, true, true, true, true, true, true, true, true, true, true, true, true, true, true, true, true, true, false, false, false, false, false, false, false, false, false, false, false, false, false, false, false]
abbrev bq4_22 : Array Bool := #[true, true, true, true, true, true, true, true, true, true, true, true, true, true, true, true, true, true, true, true, true, true, false, false, false, false, false, false, false, false, false, false, false, false, false, false]
abbrev bq4_23 : Array Bool := #[true, true, true, true, true, true, true, true, true, true, true, true, true, true, true, true, true, true, true, true, true, true, true, false, false, false, false, false, false, false, false, false, false, false, false, false]
abbrev bq4_24 : Array Bool := #[true, true, true, true, true, true, true, true, true, true, true, true, true, true, true, true, true, true, true, true, true, true, true, true, false, false, false, false, false, false, false, false, false, false, false, false]
abbrev bq4_25 : Array Bool := #[true, true, true, true, true, true, true, true, true, true, true, true, true, true, true, true, true, true, true, true, true, true, true, true, true, false, false, false, false, false, false, false, false, false, false, false]
abbrev bq4_26 : Array Bool := #[true, true, true, true, true, true, true, true, true, true, true, true, true, true, true, true, true, true, true, true, true, true, true, true, true, true, false, false, false, false, false, false, false, false, false, false]
abbrev bq4_27 : Array Bool := #[true, true, true, true, true, true, true, true, true, true, true, true, true, true, true, true, true, true, true, true, true, true, true, true, true, true, true, false, false, false, false, false, false, false, false, false]
abbrev bq4_28 : Array Bool := #[true, true, true, true, true, true, true, true, true, true, true, true, true, true, true, true, true, true, true, true, true, true, true, true, true, true, true, true, false, false, false, false, false, false, false, false]
abbrev bq4_29 : Array Bool := #[true, true, true, true, true, true, true, true, true, true, true, true, true, true, true, true, true, true, true, true, true, true, true, true, true, true, true, true, true, false, false, false, false, false, false, false]
abbrev bq4_30 : Array Bool := #[true, true, true, true, true, true, true, true, true, true, true, true, true, true, true, true, true, true, true, true, true, true, true, true, true, true, true, true, true, true, false, false, false, false, false, false]
abbrev bq4_31 : Array Bool := #[true, true, true, true, true, true, true, true, true, true, true, true, true, true, true, true, true, true, true, true, true, true, true, true, true, true, true, true, true, true, true, false, false, false, false, false]
abbrev bq4_32 : Array Bool := #[true, true, true, true, true, true, true, true, true, true, true, true, true, true, true, true, true, true, true, true, true, true, true, true, true, true, true, true, true, true, true, true, false, false, false, false]
abbrev bq4_33 : Array Bool := #[true, true, true, true, true, true, true, true, true, true, true, true, true, true, true, true, true, true, true, true, true, true, true, true, true, true, true, true, true, true, true, true, true, false, false, false]
abbrev bq4_34 : Array Bool := #[true, true, true, true, true, true, true, true, true, true, true, true, true, true, true, true, true, true, true, true, true, true, true, true, true, true, true, true, true, true, true, true, true, true, false, false]
abbrev bq4_35 : Array Bool := #[true, true, true, true, true, true, true, true, true, true, true, true, true, true, true, true, true, true, true, true, true, true, true, true, true, true, true, true, true, true, true, true, true, true, true, false]
abbrev bq4_36 : Array Bool := #[true, true, true, true, true, true, true, true, true, true, true, true, true, true, true, true, true, true, true, true, true, true, true, true, true, true, true, true, true, true, true, true, true, true, true, true]
abbrev bq4_37 : Array Bool := #[true, true, true, true, true, true, true, true, true, true, true, true, false, true, false, false, false, false, false, false, false, false, false, false, false, false, false, false, false, false, false, false, false, false, false, false]
abbrev bq4_38 : Array Bool := #[true, true, true, true, true, true, true, true, true, true, true, true, true, true, true, true, true, true, true, true, true, true, true, true, true, true, true, true, true, true, false, true, false, false, false, false]
abbrev bq4_39 : Array Bool := #[true, true, true, true, true, true, false, false, false, false, false, false, false, false, false, false, false, false, false, false, false, false, false, false, false, false, false, false, false, false, false, false, false, false, false, false]
theorem sq4_a {α : Type _} (l : List α) (i : Nat) (a : α) : l.toArray.setIfInBounds i a = (l.set i a).toArray := by simp
theorem sq4_b {α : Type _} (x : α) (l : List α) (a : α) : (x :: l).set 0 a = a :: l := rfl
theorem sq4_c {α : Type _} (x : α) (l : List α) (n : Nat) (a : α) : (x :: l).set (n + 1) a = x :: l.set n a := rfl

/-! ### spec_GoodVersion: function 7 -/
mutual
def spec_GoodVersion.j0 : Nat → Bool → Int → Int → Int → List (List (S60)) → Option (Bool)
 | 0, _, _, _, _, _ => none
 | k + 1, x34, x152000, x152001, x152002, x152003 => if x34 = true then (some false) else (spec_GoodVersion.l0 k ([] : List Int) x152003 (x152003.length : Int) 0 x152000 x152001 x152002 x152003)
def spec_GoodVersion.l0 : Nat → List Int → List (List (S60)) → Int → Int → Int → Int → Int → List (List (S60)) → Option (Bool)
 | 0, _, _, _, _, _, _, _, _ => none
 | k + 1, x3, x36, x37, x38, x152000, x152001, x152002, x152003 => if x38 < x37 then (if 0 ≤ x38 then (if x38 < (x36.length : Int) then (if ((rd_L5 x36 x38).length : Int) > 12 then (some false) else (spec_GoodVersion.l1 k x3 x38 (rd_L5 x36 x38) x36 x37 x38 (rd_L5 x36 x38) ((rd_L5 x36 x38).length : Int) 0 x152000 x152001 x152002 x152003)) else (none)) else (none)) else (some true)
def spec_GoodVersion.l1 : Nat → List Int → Int → List (S60) → List (List (S60)) → Int → Int → List (S60) → Int → Int → Int → Int → Int → List (List (S60)) → Option (Bool)
 | 0, _, _, _, _, _, _, _, _, _, _, _, _, _ => none
 | k + 1, x3, x4, x5, x36, x37, x38, x46, x47, x48, x152000, x152001, x152002, x152003 => if x48 < x47 then (if 0 ≤ x48 then (if x48 < (x46.length : Int) then ((spec_l9Meta.f ((rd_T60 x46 x48).f0) ((rd_T60 x46 x48).f1) ((rd_T60 x46 x48).f2) ((rd_T60 x46 x48).f3)).bind fun t158 => (if t158 = true then (if ((rd_T60 x46 x48).f0) ≥ x152000 then (spec_GoodVersion.j3 k x3 x4 x5 x36 x37 x38 x46 x47 x48 true x152000 x152001 x152002 x152003 ((rd_T60 x46 x48).f0) ((rd_T60 x46 x48).f1) ((rd_T60 x46 x48).f2) ((rd_T60 x46 x48).f3)) else (if ((rd_T60 x46 x48).f0) = x152001 then (spec_GoodVersion.j3 k x3 x4 x5 x36 x37 x38 x46 x47 x48 true x152000 x152001 x152002 x152003 ((rd_T60 x46 x48).f0) ((rd_T60 x46 x48).f1) ((rd_T60 x46 x48).f2) ((rd_T60 x46 x48).f3)) else (if x4 > 0 then (if x48 > 0 then (if 0 ≤ (wrap64 (x48 - 1)) then (if (wrap64 (x48 - 1)) < (x5.length : Int) then (spec_GoodVersion.j3 k x3 x4 x5 x36 x37 x38 x46 x47 x48 (!(Op.bytesLess (((rd_T60 x5 (wrap64 (x48 - 1))).f2).toList) (((rd_T60 x46 x48).f1).toList))) x152000 x152001 x152002 x152003 ((rd_T60 x46 x48).f0) ((rd_T60 x46 x48).f1) ((rd_T60 x46 x48).f2) ((rd_T60 x46 x48).f3)) else (none)) else (none)) else (spec_GoodVersion.j3 k x3 x4 x5 x36 x37 x38 x46 x47 x48 false x152000 x152001 x152002 x152003 ((rd_T60 x46 x48).f0) ((rd_T60 x46 x48).f1) ((rd_T60 x46 x48).f2) ((rd_T60 x46 x48).f3))) else (spec_GoodVersion.j3 k x3 x4 x5 x36 x37 x38 x46 x47 x48 false x152000 x152001 x152002 x152003 ((rd_T60 x46 x48).f0) ((rd_T60 x46 x48).f1) ((rd_T60 x46 x48).f2) ((rd_T60 x46 x48).f3))))) else (spec_GoodVersion.j3 k x3 x4 x5 x36 x37 x38 x46 x47 x48 true x152000 x152001 x152002 x152003 ((rd_T60 x46 x48).f0) ((rd_T60 x46 x48).f1) ((rd_T60 x46 x48).f2) ((rd_T60 x46 x48).f3)))) else (none)) else (none)) else (spec_GoodVersion.l0 k x3 x36 x37 (wrap64 (x38 + 1)) x152000 x152001 x152002 x152003)
def spec_GoodVersion.j3 : Nat → List Int → Int → List (S60) → List (List (S60)) → Int → Int → List (S60) → Int → Int → Bool → Int → Int → Int → List (List (S60)) → Int → ByteArray → ByteArray → Int → Option (Bool)
 | 0, _, _, _, _, _, _, _, _, _, _, _, _, _, _, _, _, _, _ => none
 | k + 1, x3, x4, x5, x36, x37, x38, x46, x47, x48, x88, x152000, x152001, x152002, x152003, x158000, x158001, x158002, x158003 => if x88 = true then (some false) else (spec_GoodVersion.l2 k x3 x4 x5 x36 x37 x38 x46 x47 x48 x3 (x3.length : Int) 0 x152000 x152001 x152002 x152003 x158000 x158001 x158002 x158003)
def spec_GoodVersion.l2 : Nat → List Int → Int → List (S60) → List (List (S60)) → Int → Int → List (S60) → Int → Int → List Int → Int → Int → Int → Int → Int → List (List (S60)) → Int → ByteArray → ByteArray → Int → Option (Bool)
 | 0, _, _, _, _, _, _, _, _, _, _, _, _, _, _, _, _, _, _, _, _ => none
 | k + 1, x3, x4, x5, x36, x37, x38, x46, x47, x48, x89, x90, x91, x152000, x152001, x152002, x152003, x158000, x158001, x158002, x158003 => if x91 < x90 then (if 0 ≤ x91 then (if x91 < (x89.length : Int) then (if (rd x89 x91) = x158000 then (some false) else (spec_GoodVersion.l2 k x3 x4 x5 x36 x37 x38 x46 x47 x48 x89 x90 (wrap64 (x91 + 1)) x152000 x152001 x152002 x152003 x158000 x158001 x158002 x158003)) else (none)) else (none)) else (if x3.length < 17592186044416 then (spec_GoodVersion.l1 k (x3 ++ [x158000]) x4 x5 x36 x37 x38 x46 x47 (wrap64 (x48 + 1)) x152000 x152001 x152002 x152003) else (none))
end
def spec_GoodVersion.f (k : Nat) (a0_0 : Int) (a0_1 : Int) (a0_2 : Int) (l0_3 : List (List (S60))) : Option (Bool) := (spec_l9File.f a0_0).bind fun t152 => (if t152 = true then ((spec_l1In.f a0_1 1 (wrap64 (a0_0 - 1))).bind fun t153 => (if t153 = true then ((spec_l1In.f a0_2 0 1000000000).bind fun t154 => (if t154 = true then (spec_GoodVersion.j0 k ((l0_3.length : Int) != 3) a0_0 a0_1 a0_2 l0_3) else (spec_GoodVersion.j0 k true a0_0 a0_1 a0_2 l0_3))) else (spec_GoodVersion.j0 k true a0_0 a0_1 a0_2 l0_3))) else (spec_GoodVersion.j0 k true a0_0 a0_1 a0_2 l0_3))
theorem spec_GoodVersion.mono_l : ∀ k, (∀ y0 y1 y2 y3 y4, LeO (spec_GoodVersion.j0 k y0 y1 y2 y3 y4) (spec_GoodVersion.j0 (k + 1) y0 y1 y2 y3 y4)) ∧ (∀ y0 y1 y2 y3 y4 y5 y6 y7, LeO (spec_GoodVersion.l0 k y0 y1 y2 y3 y4 y5 y6 y7) (spec_GoodVersion.l0 (k + 1) y0 y1 y2 y3 y4 y5 y6 y7)) ∧ (∀ y0 y1 y2 y3 y4 y5 y6 y7 y8 y9 y10 y11 y12, LeO (spec_GoodVersion.l1 k y0 y1 y2 y3 y4 y5 y6 y7 y8 y9 y10 y11 y12) (spec_GoodVersion.l1 (k + 1) y0 y1 y2 y3 y4 y5 y6 y7 y8 y9 y10 y11 y12)) ∧ (∀ y0 y1 y2 y3 y4 y5 y6 y7 y8 y9 y10 y11 y12 y13 y14 y15 y16 y17, LeO (spec_GoodVersion.j3 k y0 y1 y2 y3 y4 y5 y6 y7 y8 y9 y10 y11 y12 y13 y14 y15 y16 y17) (spec_GoodVersion.j3 (k + 1) y0 y1 y2 y3 y4 y5 y6 y7 y8 y9 y10 y11 y12 y13 y14 y15 y16 y17)) ∧ (∀ y0 y1 y2 y3 y4 y5 y6 y7 y8 y9 y10 y11 y12 y13 y14 y15 y16 y17 y18 y19, LeO (spec_GoodVersion.l2 k y0 y1 y2 y3 y4 y5 y6 y7 y8 y9 y10 y11 y12 y13 y14 y15 y16 y17 y18 y19) (spec_GoodVersion.l2 (k + 1) y0 y1 y2 y3 y4 y5 y6 y7 y8 y9 y10 y11 y12 y13 y14 y15 y16 y17 y18 y19))
 | 0 => ⟨fun _ _ _ _ _ r h => by simp [spec_GoodVersion.j0] at h, fun _ _ _ _ _ _ _ _ r h => by simp [spec_GoodVersion.l0] at h, fun _ _ _ _ _ _ _ _ _ _ _ _ _ r h => by simp [spec_GoodVersion.l1] at h, fun _ _ _ _ _ _ _ _ _ _ _ _ _ _ _ _ _ _ r h => by simp [spec_GoodVersion.j3] at h, fun _ _ _ _ _ _ _ _ _ _ _ _ _ _ _ _ _ _ _ _ r h => by simp [spec_GoodVersion.l2] at h⟩
 | k + 1 => by
  obtain ⟨ih0, ih1, ih2, ih3, ih4⟩ := spec_GoodVersion.mono_l k; refine ⟨?_, ?_, ?_, ?_, ?_⟩
  ·intro y0 y1 y2 y3 y4
   unfold spec_GoodVersion.j0
   repeat' first
   | (with_reducible exact ih0 _ _ _ _ _)
   | (with_reducible exact ih1 _ _ _ _ _ _ _ _)
   | (with_reducible exact ih2 _ _ _ _ _ _ _ _ _ _ _ _ _)
   | (with_reducible exact ih3 _ _ _ _ _ _ _ _ _ _ _ _ _ _ _ _ _ _)
   | (with_reducible exact ih4 _ _ _ _ _ _ _ _ _ _ _ _ _ _ _ _ _ _ _ _)
   | (with_reducible exact LeO.refl _)
   | (with_reducible exact LeO.none _)
   | (with_reducible refine LeO.ite ?_ ?_)
   | (with_reducible refine LeO.bind ?_ (fun _ => ?_))
   | exact ih0 _ _ _ _ _
   | exact ih1 _ _ _ _ _ _ _ _
   | exact ih2 _ _ _ _ _ _ _ _ _ _ _ _ _
   | exact ih3 _ _ _ _ _ _ _ _ _ _ _ _ _ _ _ _ _ _
   | exact ih4 _ _ _ _ _ _ _ _ _ _ _ _ _ _ _ _ _ _ _ _
   | exact LeO.none _
   | refine LeO.ite ?_ ?_
   | refine LeO.bind ?_ (fun _ => ?_)
  ·intro y0 y1 y2 y3 y4 y5 y6 y7
   unfold spec_GoodVersion.l0
   repeat' first
   | (with_reducible exact ih0 _ _ _ _ _)
   | (with_reducible exact ih1 _ _ _ _ _ _ _ _)
   | (with_reducible exact ih2 _ _ _ _ _ _ _ _ _ _ _ _ _)
   | (with_reducible exact ih3 _ _ _ _ _ _ _ _ _ _ _ _ _ _ _ _ _ _)
   | (with_reducible exact ih4 _ _ _ _ _ _ _ _ _ _ _ _ _ _ _ _ _ _ _ _)
   | (with_reducible exact LeO.refl _)
   | (with_reducible exact LeO.none _)
   | (with_reducible refine LeO.ite ?_ ?_)
   | (with_reducible refine LeO.bind ?_ (fun _ => ?_))
   | exact ih0 _ _ _ _ _
   | exact ih1 _ _ _ _ _ _ _ _
   | exact ih2 _ _ _ _ _ _ _ _ _ _ _ _ _
   | exact ih3 _ _ _ _ _ _ _ _ _ _ _ _ _ _ _ _ _ _
   | exact ih4 _ _ _ _ _ _ _ _ _ _ _ _ _ _ _ _ _ _ _ _
   | exact LeO.none _
   | refine LeO.ite ?_ ?_
   | refine LeO.bind ?_ (fun _ => ?_)
  ·intro y0 y1 y2 y3 y4 y5 y6 y7 y8 y9 y10 y11 y12
   unfold spec_GoodVersion.l1
   repeat' first
   | (with_reducible exact ih0 _ _ _ _ _)
   | (with_reducible exact ih1 _ _ _ _ _ _ _ _)
   | (with_reducible exact ih2 _ _ _ _ _ _ _ _ _ _ _ _ _)
   | (with_reducible exact ih3 _ _ _ _ _ _ _ _ _ _ _ _ _ _ _ _ _ _)
   | (with_reducible exact ih4 _ _ _ _ _ _ _ _ _ _ _ _ _ _ _ _ _ _ _ _)
   | (with_reducible exact LeO.refl _)
   | (with_reducible exact LeO.none _)
   | (with_reducible refine LeO.ite ?_ ?_)
   | (with_reducible refine LeO.bind ?_ (fun _ => ?_))
   | exact ih0 _ _ _ _ _
   | exact ih1 _ _ _ _ _ _ _ _
   | exact ih2 _ _ _ _ _ _ _ _ _ _ _ _ _
   | exact ih3 _ _ _ _ _ _ _ _ _ _ _ _ _ _ _ _ _ _
   | exact ih4 _ _ _ _ _ _ _ _ _ _ _ _ _ _ _ _ _ _ _ _
   | exact LeO.none _
   | refine LeO.ite ?_ ?_
   | refine LeO.bind ?_ (fun _ => ?_)
  ·intro y0 y1 y2 y3 y4 y5 y6 y7 y8 y9 y10 y11 y12 y13 y14 y15 y16 y17
   unfold spec_GoodVersion.j3
   repeat' first
   | (with_reducible exact ih0 _ _ _ _ _)
   | (with_reducible exact ih1 _ _ _ _ _ _ _ _)
   | (with_reducible exact ih2 _ _ _ _ _ _ _ _ _ _ _ _ _)
   | (with_reducible exact ih3 _ _ _ _ _ _ _ _ _ _ _ _ _ _ _ _ _ _)
   | (with_reducible exact ih4 _ _ _ _ _ _ _ _ _ _ _ _ _ _ _ _ _ _ _ _)
   | (with_reducible exact LeO.refl _)
   | (with_reducible exact LeO.none _)
   | (with_reducible refine LeO.ite ?_ ?_)
   | (with_reducible refine LeO.bind ?_ (fun _ => ?_))
   | exact ih0 _ _ _ _ _
   | exact ih1 _ _ _ _ _ _ _ _
   | exact ih2 _ _ _ _ _ _ _ _ _ _ _ _ _
   | exact ih3 _ _ _ _ _ _ _ _ _ _ _ _ _ _ _ _ _ _
   | exact ih4 _ _ _ _ _ _ _ _ _ _ _ _ _ _ _ _ _ _ _ _
   | exact LeO.none _
   | refine LeO.ite ?_ ?_
   | refine LeO.bind ?_ (fun _ => ?_)
  ·intro y0 y1 y2 y3 y4 y5 y6 y7 y8 y9 y10 y11 y12 y13 y14 y15 y16 y17 y18 y19
   unfold spec_GoodVersion.l2
   repeat' first
   | (with_reducible exact ih0 _ _ _ _ _)
   | (with_reducible exact ih1 _ _ _ _ _ _ _ _)
   | (with_reducible exact ih2 _ _ _ _ _ _ _ _ _ _ _ _ _)
   | (with_reducible exact ih3 _ _ _ _ _ _ _ _ _ _ _ _ _ _ _ _ _ _)
   | (with_reducible exact ih4 _ _ _ _ _ _ _ _ _ _ _ _ _ _ _ _ _ _ _ _)
   | (with_reducible exact LeO.refl _)
   | (with_reducible exact LeO.none _)
   | (with_reducible refine LeO.ite ?_ ?_)
   | (with_reducible refine LeO.bind ?_ (fun _ => ?_))
   | exact ih0 _ _ _ _ _
   | exact ih1 _ _ _ _ _ _ _ _
   | exact ih2 _ _ _ _ _ _ _ _ _ _ _ _ _
   | exact ih3 _ _ _ _ _ _ _ _ _ _ _ _ _ _ _ _ _ _
   | exact ih4 _ _ _ _ _ _ _ _ _ _ _ _ _ _ _ _ _ _ _ _
   | exact LeO.none _
   | refine LeO.ite ?_ ?_
   | refine LeO.bind ?_ (fun _ => ?_)
theorem spec_GoodVersion.mono : ∀ a0 a1 a2 a3 k, LeO (spec_GoodVersion.f k a0 a1 a2 a3) (spec_GoodVersion.f (k + 1) a0 a1 a2 a3) := by
 intro a0 a1 a2 a3 k
 obtain ⟨ih0, ih1, ih2, ih3, ih4⟩ := spec_GoodVersion.mono_l k
 unfold spec_GoodVersion.f
 repeat' first
   | (with_reducible exact ih0 _ _ _ _ _)
   | (with_reducible exact ih1 _ _ _ _ _ _ _ _)
   | (with_reducible exact ih2 _ _ _ _ _ _ _ _ _ _ _ _ _)
   | (with_reducible exact ih3 _ _ _ _ _ _ _ _ _ _ _ _ _ _ _ _ _ _)
   | (with_reducible exact ih4 _ _ _ _ _ _ _ _ _ _ _ _ _ _ _ _ _ _ _ _)
   | (with_reducible exact LeO.refl _)
   | (with_reducible exact LeO.none _)
   | (with_reducible refine LeO.ite ?_ ?_)
   | (with_reducible refine LeO.bind ?_ (fun _ => ?_))
   | exact ih0 _ _ _ _ _
   | exact ih1 _ _ _ _ _ _ _ _
   | exact ih2 _ _ _ _ _ _ _ _ _ _ _ _ _
   | exact ih3 _ _ _ _ _ _ _ _ _ _ _ _ _ _ _ _ _ _
   | exact ih4 _ _ _ _ _ _ _ _ _ _ _ _ _ _ _ _ _ _ _ _
   | exact LeO.none _
   | refine LeO.ite ?_ ?_
   | refine LeO.bind ?_ (fun _ => ?_)
def spec_GoodVersion.T12 : Bool × List (List Nat × List Nat) := (true, [([], []), ([0], [0]), ([1], [1]), ([2, 1], [2]), ([3], [3]), ([4, 3], [3, 4]), ([3], [3]), ([6, 3], [3, 6]), ([5, 7, 3], [3, 5, 7]), ([3, 8], [3, 8]), ([9, 3], [9]), ([10], [10]), ([11, 10], [10, 11]), ([10], [10]), ([13, 10], [10, 13]), ([12, 14, 10], [10, 12, 14]), ([10, 15], [10, 15]), ([16, 10], [16]), ([17], [17]), ([18, 17], [17, 18]), ([19, 17, 17], [17, 19]), ([20], [20]), ([21, 20], [20, 21]), ([20, 22, 17], [17, 20, 22]), ([23, 20, 17], [17, 23]), ([24], [24]), ([24], [24]), ([26, 24], [24, 26]), ([25, 27, 24], [24, 25, 27]), ([28, 24], [24, 28]), ([29, 24], [24, 29]), ([24], [24]), ([31, 24], [24, 31]), ([30, 32, 24], [24, 30, 32]), ([24, 33, 17], [17, 24, 33]), ([17, 34], [17, 34])])
def spec_GoodVersion.B12 : List Nat := [0, 1, 3, 7, 15, 31, 15, 79, 255, 511, 1023, 2047, 4095, 2047, 10239, 32767, 65535, 131071, 262143, 524287, 1048575, 2097151, 4194303, 8388607, 16777215, 33554431, 33554431, 100663295, 268435455, 536870911, 1073741823, 33554431, 2181038079, 8589934591, 17179869183, 34359738367]
theorem spec_GoodVersion.tab12 : rtab .any (opsOf Try.f7 12) = spec_GoodVersion.T12 := by kernel_rfl
theorem spec_GoodVersion.bits12 : waitsOk spec_GoodVersion.T12.2 spec_GoodVersion.B12 = true := by kernel_rfl
set_option maxHeartbeats 8000000 in
set_option maxRecDepth 100000 in
theorem spec_GoodVersion.calls (k : Nat) (a0_0 : Int) (a0_1 : Int) (a0_2 : Int) (A0_3 : Option Addr) (c0_3 : Nat) (l0_3 : List (List (S60))) (r : Bool) (w : World) (hr0_3 : Kd.C (Kd.slice 60 k60) w A0_3 l0_3.length l0_3) (hc0_3 : l0_3.length ≤ c0_3) (h : spec_GoodVersion.f k a0_0 a0_1 a0_2 l0_3 = some r) :
  Calls Try.prog 7 #[.agg #[.int .i64 a0_0, .int .i64 a0_1, .int .i64 a0_2, .slice A0_3 l0_3.length c0_3]] w fun e w' => e = .returned (.bool r) ∧ Below w.heap.size w w' := by
 have hu29 := Try.underlying29
 have hu60 := Try.underlying60
 have HR0_3 := Aside0.mk hr0_3
 have HC0_3 := Aside0.mk hc0_3
 clear hr0_3 hc0_3
 have HB := Aside0.mk (Below.refl w.heap.size w)
 have H : ((spec_l9File.f a0_0).bind fun t152 => (if t152 = true then ((spec_l1In.f a0_1 1 (wrap64 (a0_0 - 1))).bind fun t153 => (if t153 = true then ((spec_l1In.f a0_2 0 1000000000).bind fun t154 => (if t154 = true then (spec_GoodVersion.j0 k ((l0_3.length : Int) != 3) a0_0 a0_1 a0_2 l0_3) else (spec_GoodVersion.j0 k true a0_0 a0_1 a0_2 l0_3))) else (spec_GoodVersion.j0 k true a0_0 a0_1 a0_2 l0_3))) else (spec_GoodVersion.j0 k true a0_0 a0_1 a0_2 l0_3))) = some r := h
 clear h
 have HC2 := Aside0.mk H
 clear H
 go_enter Try.func7, Try.ntmps7
 go_upto_region 1 with (first | ((with_reducible refine gate_dst (N := 1) rfl ?_); (try (refine gate_guard (by rfl) ?_; dsimp only)); refine box_event ?hg (N := 1) ?hd (cs := #[.int .i64 a0_0, .int .i64 a0_1, .int .i64 a0_2, .slice A0_3 l0_3.length c0_3]) (t := 29) ?hr ?_; (case hd => rfl); (case hg => rfl); (case hr => first | (go_simp; done) | (go_simp; rfl)); intro gb151 hg w3 hbox hb; have n0_ := Aside0.mk (below_step (by repeat (first | (with_reducible first | exact HB.out | apply below_alloc | apply pw_below_drewN | apply below_drew1) | exact HB.out)) hb); have n1_ := Aside0.mk (hbox); have n2_ := Aside0.mk ((by rw [hg]; exact (below_size (by repeat (first | (with_reducible first | exact HB.out | apply below_alloc | apply pw_below_drewN | apply below_drew1) | exact HB.out))) : w.heap.size ≤ gb151)); have n3_ := Aside0.mk ((by rw [hg]; exact (below_size (by repeat (first | (with_reducible first | exact HB.out | apply below_alloc | apply pw_below_drewN | apply below_drew1) | exact HB.out))) : w.heap.size ≤ gb151)); clear HB; have HB := n0_; have BK151 := n1_; have GW151 := n2_; have GE151 := n3_; clear n0_ n1_ n2_ n3_; clear hb hbox hg))
 (try simp only [Act.put, sq4_a, sq4_b, sq4_c])
 go_cut [34] (fun v34 wc => ∃ (kq : Nat) (x34_1 : Bool), v34 = .bool x34_1 ∧ Aside0 (spec_GoodVersion.j0 kq x34_1 a0_0 a0_1 a0_2 l0_3 = some r) ∧ Aside0 (kq ≤ k) ∧ Aside0 (wc.heap[gb151]? = some (.cells #[.int .i64 a0_0, .int .i64 a0_1, .int .i64 a0_2, (.slice A0_3 l0_3.length c0_3)] 29 (0, 0))) ∧ Aside0 (Below w.heap.size w wc))
 case first =>
  have H := HC2.out; clear HC2; replace H := Option.bind_eq_some_iff.mp H; obtain ⟨t152, A40, H⟩ := H; replace H : (if t152 = true then ((spec_l1In.f a0_1 1 (wrap64 (a0_0 - 1))).bind fun t153 => (if t153 = true then ((spec_l1In.f a0_2 0 1000000000).bind fun t154 => (if t154 = true then (spec_GoodVersion.j0 k ((l0_3.length : Int) != 3) a0_0 a0_1 a0_2 l0_3) else (spec_GoodVersion.j0 k true a0_0 a0_1 a0_2 l0_3))) else (spec_GoodVersion.j0 k true a0_0 a0_1 a0_2 l0_3))) else (spec_GoodVersion.j0 k true a0_0 a0_1 a0_2 l0_3)) = some r := H; have A4 := Aside0.mk A40; clear A40
  by_cases c5 : t152 = true
  ·subst c5
   have H1 : ((spec_l1In.f a0_1 1 (wrap64 (a0_0 - 1))).bind fun t153 => (if t153 = true then ((spec_l1In.f a0_2 0 1000000000).bind fun t154 => (if t154 = true then (spec_GoodVersion.j0 k ((l0_3.length : Int) != 3) a0_0 a0_1 a0_2 l0_3) else (spec_GoodVersion.j0 k true a0_0 a0_1 a0_2 l0_3))) else (spec_GoodVersion.j0 k true a0_0 a0_1 a0_2 l0_3))) = some r := by rw [if_pos rfl] at H; exact H
   clear H; have H := H1; clear H1; replace H := Option.bind_eq_some_iff.mp H; obtain ⟨t153, A60, H⟩ := H; replace H : (if t153 = true then ((spec_l1In.f a0_2 0 1000000000).bind fun t154 => (if t154 = true then (spec_GoodVersion.j0 k ((l0_3.length : Int) != 3) a0_0 a0_1 a0_2 l0_3) else (spec_GoodVersion.j0 k true a0_0 a0_1 a0_2 l0_3))) else (spec_GoodVersion.j0 k true a0_0 a0_1 a0_2 l0_3)) = some r := H; have A6 := Aside0.mk A60; clear A60
   by_cases c7 : t153 = true
   ·subst c7
    have H1 : ((spec_l1In.f a0_2 0 1000000000).bind fun t154 => (if t154 = true then (spec_GoodVersion.j0 k ((l0_3.length : Int) != 3) a0_0 a0_1 a0_2 l0_3) else (spec_GoodVersion.j0 k true a0_0 a0_1 a0_2 l0_3))) = some r := by rw [if_pos rfl] at H; exact H
    clear H; have H := H1; clear H1; replace H := Option.bind_eq_some_iff.mp H; obtain ⟨t154, A80, H⟩ := H; replace H : (if t154 = true then (spec_GoodVersion.j0 k ((l0_3.length : Int) != 3) a0_0 a0_1 a0_2 l0_3) else (spec_GoodVersion.j0 k true a0_0 a0_1 a0_2 l0_3)) = some r := H; have A8 := Aside0.mk A80; clear A80
    by_cases c9 : t154 = true
    ·subst c9
     have H1 : (spec_GoodVersion.j0 k ((l0_3.length : Int) != 3) a0_0 a0_1 a0_2 l0_3) = some r := by rw [if_pos rfl] at H; exact H
     clear H; have H := H1; clear H1; have H' := Aside0.mk H; clear H; have hcz10_0 : w3.cell? ⟨gb151, 0, none⟩ = some (.int .i64 a0_0) := (blk_cell BK151.out 0).trans rfl; have hcz10_1 : w3.cell? ⟨gb151, 1, none⟩ = some (.int .i64 a0_1) := (blk_cell BK151.out 1).trans rfl; have hcz10_2 : w3.cell? ⟨gb151, 2, none⟩ = some (.int .i64 a0_2) := (blk_cell BK151.out 2).trans rfl; have hcz10_3 : w3.cell? ⟨gb151, 3, none⟩ = some (.slice A0_3 l0_3.length c0_3) := (blk_cell BK151.out 3).trans rfl; have hfz10_0 := blk_frozen BK151.out 0; have hfz10_1 := blk_frozen BK151.out 1; have hfz10_2 := blk_frozen BK151.out 2; have hfz10_3 := blk_frozen BK151.out 3
     go_wp2_with (first | ((with_reducible refine gate_callee (f := 27) rfl ?_); refine goesL_ (some 12) rfl rfl Try.func27 (by kernel_rfl) rfl #[.int .i64 a0_0] rfl (by (try simp only [List.map_toArray, List.map_cons, List.map_nil]); first | done | rfl | (simp only [List.length_drop, List.length_take]; rfl)) ?_; (with_reducible refine (spec_l9File.calls a0_0 true _ A4.out).mono ?_); rintro e w' ⟨rfl, ⟨nd, rfl⟩⟩; refine ⟨_, rfl, ?_⟩) | (go_at_call 28; (with_reducible refine (spec_l1In.calls a0_1 1 (wrap64 (a0_0 - 1)) true _ A6.out).mono ?_); rintro e w' ⟨rfl, ⟨nd, rfl⟩⟩) | (go_at_call 28; (with_reducible refine (spec_l1In.calls a0_2 0 1000000000 true _ A8.out).mono ?_); rintro e w' ⟨rfl, ⟨nd, rfl⟩⟩))
     go_meet
     case rel => exact ⟨_, (((l0_3.length : Int) != 3)), (by first | rfl | (simp; done) | (simp [*]; done)), H', ⟨by first | omega | exact Nat.le_refl _⟩, ⟨by (with_reducible repeat (first | refine blk_drewN ?_ _ | refine blk_drew ?_ | refine blk_alloc ?_ _)); exact BK151.out⟩, ⟨by repeat (first | (with_reducible first | exact HB.out | apply below_alloc | apply pw_below_drewN | apply below_drew1 | refine below_set ?_ GE151.out) | exact HB.out)⟩⟩
    ·replace c9 := Bool.eq_false_iff.mpr c9
     subst c9
     have H1 : (spec_GoodVersion.j0 k true a0_0 a0_1 a0_2 l0_3) = some r := by rw [if_neg (show ¬ (false = true) by decide)] at H; exact H
     clear H; have H := H1; clear H1; have H' := Aside0.mk H; clear H; have hcz11_0 : w3.cell? ⟨gb151, 0, none⟩ = some (.int .i64 a0_0) := (blk_cell BK151.out 0).trans rfl; have hcz11_1 : w3.cell? ⟨gb151, 1, none⟩ = some (.int .i64 a0_1) := (blk_cell BK151.out 1).trans rfl; have hcz11_2 : w3.cell? ⟨gb151, 2, none⟩ = some (.int .i64 a0_2) := (blk_cell BK151.out 2).trans rfl; have hcz11_3 : w3.cell? ⟨gb151, 3, none⟩ = some (.slice A0_3 l0_3.length c0_3) := (blk_cell BK151.out 3).trans rfl; have hfz11_0 := blk_frozen BK151.out 0; have hfz11_1 := blk_frozen BK151.out 1; have hfz11_2 := blk_frozen BK151.out 2; have hfz11_3 := blk_frozen BK151.out 3
     go_wp2_with (first | ((with_reducible refine gate_callee (f := 27) rfl ?_); refine goesL_ (some 12) rfl rfl Try.func27 (by kernel_rfl) rfl #[.int .i64 a0_0] rfl (by (try simp only [List.map_toArray, List.map_cons, List.map_nil]); first | done | rfl | (simp only [List.length_drop, List.length_take]; rfl)) ?_; (with_reducible refine (spec_l9File.calls a0_0 true _ A4.out).mono ?_); rintro e w' ⟨rfl, ⟨nd, rfl⟩⟩; refine ⟨_, rfl, ?_⟩) | (go_at_call 28; (with_reducible refine (spec_l1In.calls a0_1 1 (wrap64 (a0_0 - 1)) true _ A6.out).mono ?_); rintro e w' ⟨rfl, ⟨nd, rfl⟩⟩) | (go_at_call 28; (with_reducible refine (spec_l1In.calls a0_2 0 1000000000 false _ A8.out).mono ?_); rintro e w' ⟨rfl, ⟨nd, rfl⟩⟩))
     go_meet
     case rel => exact ⟨_, (true), (by first | rfl | (simp; done) | (simp [*]; done)), H', ⟨by first | omega | exact Nat.le_refl _⟩, ⟨by (with_reducible repeat (first | refine blk_drewN ?_ _ | refine blk_drew ?_ | refine blk_alloc ?_ _)); exact BK151.out⟩, ⟨by repeat (first | (with_reducible first | exact HB.out | apply below_alloc | apply pw_below_drewN | apply below_drew1 | refine below_set ?_ GE151.out) | exact HB.out)⟩⟩
   ·replace c7 := Bool.eq_false_iff.mpr c7
    subst c7
    have H1 : (spec_GoodVersion.j0 k true a0_0 a0_1 a0_2 l0_3) = some r := by rw [if_neg (show ¬ (false = true) by decide)] at H; exact H
    clear H; have H := H1; clear H1; have H' := Aside0.mk H; clear H; have hcz12_0 : w3.cell? ⟨gb151, 0, none⟩ = some (.int .i64 a0_0) := (blk_cell BK151.out 0).trans rfl; have hcz12_1 : w3.cell? ⟨gb151, 1, none⟩ = some (.int .i64 a0_1) := (blk_cell BK151.out 1).trans rfl; have hcz12_2 : w3.cell? ⟨gb151, 2, none⟩ = some (.int .i64 a0_2) := (blk_cell BK151.out 2).trans rfl; have hcz12_3 : w3.cell? ⟨gb151, 3, none⟩ = some (.slice A0_3 l0_3.length c0_3) := (blk_cell BK151.out 3).trans rfl; have hfz12_0 := blk_frozen BK151.out 0; have hfz12_1 := blk_frozen BK151.out 1; have hfz12_2 := blk_frozen BK151.out 2; have hfz12_3 := blk_frozen BK151.out 3
    go_wp2_with (first | ((with_reducible refine gate_callee (f := 27) rfl ?_); refine goesL_ (some 12) rfl rfl Try.func27 (by kernel_rfl) rfl #[.int .i64 a0_0] rfl (by (try simp only [List.map_toArray, List.map_cons, List.map_nil]); first | done | rfl | (simp only [List.length_drop, List.length_take]; rfl)) ?_; (with_reducible refine (spec_l9File.calls a0_0 true _ A4.out).mono ?_); rintro e w' ⟨rfl, ⟨nd, rfl⟩⟩; refine ⟨_, rfl, ?_⟩) | (go_at_call 28; (with_reducible refine (spec_l1In.calls a0_1 1 (wrap64 (a0_0 - 1)) false _ A6.out).mono ?_); rintro e w' ⟨rfl, ⟨nd, rfl⟩⟩))
    go_meet
    case rel => exact ⟨_, (true), (by first | rfl | (simp; done) | (simp [*]; done)), H', ⟨by first | omega | exact Nat.le_refl _⟩, ⟨by (with_reducible repeat (first | refine blk_drewN ?_ _ | refine blk_drew ?_ | refine blk_alloc ?_ _)); exact BK151.out⟩, ⟨by repeat (first | (with_reducible first | exact HB.out | apply below_alloc | apply pw_below_drewN | apply below_drew1 | refine below_set ?_ GE151.out) | exact HB.out)⟩⟩
  ·replace c5 := Bool.eq_false_iff.mpr c5
   subst c5
   have H1 : (spec_GoodVersion.j0 k true a0_0 a0_1 a0_2 l0_3) = some r := by rw [if_neg (show ¬ (false = true) by decide)] at H; exact H
   clear H; have H := H1; clear H1; have H' := Aside0.mk H; clear H; have hcz13_0 : w3.cell? ⟨gb151, 0, none⟩ = some (.int .i64 a0_0) := (blk_cell BK151.out 0).trans rfl; have hcz13_1 : w3.cell? ⟨gb151, 1, none⟩ = some (.int .i64 a0_1) := (blk_cell BK151.out 1).trans rfl; have hcz13_2 : w3.cell? ⟨gb151, 2, none⟩ = some (.int .i64 a0_2) := (blk_cell BK151.out 2).trans rfl; have hcz13_3 : w3.cell? ⟨gb151, 3, none⟩ = some (.slice A0_3 l0_3.length c0_3) := (blk_cell BK151.out 3).trans rfl; have hfz13_0 := blk_frozen BK151.out 0; have hfz13_1 := blk_frozen BK151.out 1; have hfz13_2 := blk_frozen BK151.out 2; have hfz13_3 := blk_frozen BK151.out 3
   go_wp2_with (first | ((with_reducible refine gate_callee (f := 27) rfl ?_); refine goesL_ (some 12) rfl rfl Try.func27 (by kernel_rfl) rfl #[.int .i64 a0_0] rfl (by (try simp only [List.map_toArray, List.map_cons, List.map_nil]); first | done | rfl | (simp only [List.length_drop, List.length_take]; rfl)) ?_; (with_reducible refine (spec_l9File.calls a0_0 false _ A4.out).mono ?_); rintro e w' ⟨rfl, ⟨nd, rfl⟩⟩; refine ⟨_, rfl, ?_⟩))
   go_meet
   case rel => exact ⟨_, (true), (by first | rfl | (simp; done) | (simp [*]; done)), H', ⟨by first | omega | exact Nat.le_refl _⟩, ⟨by (with_reducible repeat (first | refine blk_drewN ?_ _ | refine blk_drew ?_ | refine blk_alloc ?_ _)); exact BK151.out⟩, ⟨by repeat (first | (with_reducible first | exact HB.out | apply below_alloc | apply pw_below_drewN | apply below_drew1 | refine below_set ?_ GE151.out) | exact HB.out)⟩⟩
 case rest =>
  clear HC2
  try clear c2
  try clear p2
  try clear c5
  try clear p6
  try clear c7
  try clear c9
  try clear hcz10_0
  try clear hcz10_1
  try clear hcz10_2
  try clear hcz10_3
  try clear hcz11_0
  try clear hcz11_1
  try clear hcz11_2
  try clear hcz11_3
  try clear hcz12_0
  try clear hcz12_1
  try clear hcz12_2
  try clear hcz12_3
  try clear hcz13_0
  try clear hcz13_1
  try clear hcz13_2
  try clear hcz13_3
  try clear hfz10_0
  try clear hfz10_1
  try clear hfz10_2
  try clear hfz10_3
  try clear hfz11_0
  try clear hfz11_1
  try clear hfz11_2
  try clear hfz11_3
  try clear hfz12_0
  try clear hfz12_1
  try clear hfz12_2
  try clear hfz12_3
  try clear hfz13_0
  try clear hfz13_1
  try clear hfz13_2
  try clear hfz13_3
  obtain ⟨kq, x34_1, rfl, HA, HJ1, BK151, HB⟩ := hcut
  cases kq with
  | zero => exact absurd HA.out (by simp [spec_GoodVersion.j0])
  | succ kj1 =>
   have H := HA.out; clear HA; simp only [spec_GoodVersion.j0] at H
   by_cases c14 : x34_1 = true
   ·subst c14
    have H1 : (some false) = some r := by rw [if_pos rfl] at H; exact H
    clear H; have H := H1; clear H1; obtain rfl := Option.some.inj H
    go_wp2
    go_ret
    exact ⟨by first | rfl | (simp [errW_none, errW_some] <;> rfl) | (simp [*, errW_none, errW_some] <;> rfl), by repeat (first | (with_reducible first | exact HB.out | apply below_alloc | apply pw_below_drewN | apply below_drew1 | refine below_set ?_ GE151.out) | exact HB.out)⟩
   ·replace c14 := Bool.eq_false_iff.mpr c14
    subst c14
    have H1 : (spec_GoodVersion.l0 kj1 ([] : List Int) l0_3 (l0_3.length : Int) 0 a0_0 a0_1 a0_2 l0_3) = some r := by rw [if_neg (show ¬ (false = true) by decide)] at H; exact H
    clear H; have H := H1; clear H1; have H' := Aside0.mk H; clear H; have hcz15_0 : wc.cell? ⟨gb151, 0, none⟩ = some (.int .i64 a0_0) := (blk_cell BK151.out 0).trans rfl; have hcz15_1 : wc.cell? ⟨gb151, 1, none⟩ = some (.int .i64 a0_1) := (blk_cell BK151.out 1).trans rfl; have hcz15_2 : wc.cell? ⟨gb151, 2, none⟩ = some (.int .i64 a0_2) := (blk_cell BK151.out 2).trans rfl; have hcz15_3 : wc.cell? ⟨gb151, 3, none⟩ = some (.slice A0_3 l0_3.length c0_3) := (blk_cell BK151.out 3).trans rfl; have hfz15_0 := blk_frozen BK151.out 0; have hfz15_1 := blk_frozen BK151.out 1; have hfz15_2 := blk_frozen BK151.out 2; have hfz15_3 := blk_frozen BK151.out 3
    go_wp2
    go_loopg [3, 38] kj1 (fun kq v3 v38 w' => ∃ (x3_2 : List Int) (x38_2 : Int), v38 = .int .i64 x38_2 ∧ Aside0 (spec_GoodVersion.l0 kq x3_2 l0_3 (l0_3.length : Int) x38_2 a0_0 a0_1 a0_2 l0_3 = some r) ∧ Aside0 (kq ≤ kj1) ∧ Aside0 (Kd.R (Kd.int .i64) 3 w' w.heap.size (fun _ => True) v3 x3_2) ∧ Aside0 (w'.heap[gb151]? = some (.cells #[.int .i64 a0_0, .int .i64 a0_1, .int .i64 a0_2, (.slice A0_3 l0_3.length c0_3)] 29 (0, 0))) ∧ Aside0 (Below w.heap.size w w'))
    case atStart => exact ⟨(([] : List Int)), (0), (by first | rfl | (simp; done) | (simp [*]; done)), H', ⟨Nat.le_refl _⟩, ⟨by first | exact Kd.R_nil _ _ _ _ _ | exact Kd.N_nil _ _ _ _ _ | exact Kd.V_nil _ _ _ _ _ | exact Kd.Q_nil _ _ _ _ _ | exact Kd.S_nil _ _ _ _ _⟩, ⟨by (with_reducible repeat (first | refine blk_drewN ?_ _ | refine blk_drew ?_ | refine blk_alloc ?_ _)); exact BK151.out⟩, ⟨by repeat (first | (with_reducible first | exact HB.out | apply below_alloc | apply pw_below_drewN | apply below_drew1 | refine below_set ?_ GE151.out) | exact HB.out)⟩⟩
    case round =>
     clear H'
     try clear c1
     try clear c2
     try clear p2
     try clear c5
     try clear p6
     try clear c7
     try clear c9
     try clear c14
     try clear hcz10_0
     try clear hcz10_1
     try clear hcz10_2
     try clear hcz10_3
     try clear hcz11_0
     try clear hcz11_1
     try clear hcz11_2
     try clear hcz11_3
     try clear hcz12_0
     try clear hcz12_1
     try clear hcz12_2
     try clear hcz12_3
     try clear hcz13_0
     try clear hcz13_1
     try clear hcz13_2
     try clear hcz13_3
     try clear hcz15_0
     try clear hcz15_1
     try clear hcz15_2
     try clear hcz15_3
     try clear hfz10_0
     try clear hfz10_1
     try clear hfz10_2
     try clear hfz10_3
     try clear hfz11_0
     try clear hfz11_1
     try clear hfz11_2
     try clear hfz11_3
     try clear hfz12_0
     try clear hfz12_1
     try clear hfz12_2
     try clear hfz12_3
     try clear hfz13_0
     try clear hfz13_1
     try clear hfz13_2
     try clear hfz13_3
     try clear hfz15_0
     try clear hfz15_1
     try clear hfz15_2
     try clear hfz15_3
     try clear p2
     try clear p6
     obtain ⟨x3_2, x38_2, rfl, HA, HK2, HO_3, BK151, HB⟩ := hrel
     cases gk with
     | zero => exact absurd HA.out (by simp [spec_GoodVersion.l0])
     | succ k2 =>
      have H := HA.out; clear HA; simp only [spec_GoodVersion.l0] at H
      by_cases c16 : x38_2 < (l0_3.length : Int)
      ·rw [if_pos c16] at H
       have c16b0 : decide (x38_2 < (l0_3.length : Int)) = true := decide_eq_true c16; clear c16
       by_cases c17 : 0 ≤ x38_2
       ·rw [if_pos c17] at H
        have c17b0 : decide (0 ≤ x38_2) = true := decide_eq_true c17; clear c17
        by_cases c18 : x38_2 < (l0_3.length : Int)
        ·rw [if_pos c18] at H
         have c18b0 : decide (x38_2 < (l0_3.length : Int)) = true := decide_eq_true c18; clear c18
         by_cases c19 : ((rd_L5 l0_3 x38_2).length : Int) > 12
         ·rw [if_pos c19] at H
          have c19b0 : decide (12 < ((rd_L5 l0_3 x38_2).length : Int)) = true := decide_eq_true c19; have c19b1 : decide (12 < (rd_L5 l0_3 x38_2).length) = true := decide_eq_true (by omega); clear c19; obtain rfl := Option.some.inj H; have p155 : 0 ≤ (x38_2 : Int) := of_decide_eq_true (by first | (with_reducible assumption) | assumption); have q155 : x38_2 < (l0_3.length : Int) := of_decide_eq_true (by first | (with_reducible assumption) | assumption); obtain ⟨ad155, A155_0, c155_0, e155, hx155_0, hl155_0, hi155_0⟩ := at_L5 HR0_3.out x38_2 p155 q155
          cases e155
          try (replace hx155_0 := (HB.out.cell (World.block_lt_of_cell? w _ hx155_0)).trans hx155_0)
          have HR155_0 := Aside0.mk hi155_0; have HC155_0 := Aside0.mk hl155_0; clear hi155_0 hl155_0; replace p155 := eq_true p155; replace q155 := eq_true q155
          go_wp2
          go_ret
          exact ⟨by first | rfl | (simp [errW_none, errW_some] <;> rfl) | (simp [*, errW_none, errW_some] <;> rfl), by repeat (first | (with_reducible first | exact HB.out | apply below_alloc | apply pw_below_drewN | apply below_drew1 | refine below_set ?_ GE151.out) | exact HB.out)⟩
         ·rw [if_neg c19] at H
          have c19b0 : decide (12 < ((rd_L5 l0_3 x38_2).length : Int)) = false := decide_eq_false c19; have c19b1 : decide (12 < (rd_L5 l0_3 x38_2).length) = false := decide_eq_false (by omega); clear c19; have H' := Aside0.mk H; clear H; have p155 : 0 ≤ (x38_2 : Int) := of_decide_eq_true (by first | (with_reducible assumption) | assumption); have q155 : x38_2 < (l0_3.length : Int) := of_decide_eq_true (by first | (with_reducible assumption) | assumption); obtain ⟨ad155, A155_0, c155_0, e155, hx155_0, hl155_0, hi155_0⟩ := at_L5 HR0_3.out x38_2 p155 q155
          cases e155
          try (replace hx155_0 := (HB.out.cell (World.block_lt_of_cell? w _ hx155_0)).trans hx155_0)
          have HR155_0 := Aside0.mk hi155_0; have HC155_0 := Aside0.mk hl155_0; clear hi155_0 hl155_0; replace p155 := eq_true p155; replace q155 := eq_true q155
          go_wp2
          go_loopg [3, 48] k2 (fun kq v3 v48 w' => ∃ (x3_3 : List Int) (x48_3 : Int), v48 = .int .i64 x48_3 ∧ Aside0 (spec_GoodVersion.l1 kq x3_3 x38_2 (rd_L5 l0_3 x38_2) l0_3 (l0_3.length : Int) x38_2 (rd_L5 l0_3 x38_2) ((rd_L5 l0_3 x38_2).length : Int) x48_3 a0_0 a0_1 a0_2 l0_3 = some r) ∧ Aside0 (kq ≤ k2) ∧ Aside0 (Kd.R (Kd.int .i64) 3 w' w.heap.size (fun _ => True) v3 x3_3) ∧ Aside0 (w'.heap[gb151]? = some (.cells #[.int .i64 a0_0, .int .i64 a0_1, .int .i64 a0_2, (.slice (some ad155) l0_3.length c0_3)] 29 (0, 0))) ∧ Aside0 (Below w.heap.size w w'))
          case atStart => exact ⟨(x3_2), (0), (by first | rfl | (simp; done) | (simp [*]; done)), H', ⟨Nat.le_refl _⟩, ⟨by (with_reducible repeat (first | apply Kd.R_alloc | apply Kd.R_drewN | apply Kd.R_drew)); exact HO_3.out⟩, ⟨by (with_reducible repeat (first | refine blk_drewN ?_ _ | refine blk_drew ?_ | refine blk_alloc ?_ _)); exact BK151.out⟩, ⟨by repeat (first | (with_reducible first | exact HB.out | apply below_alloc | apply pw_below_drewN | apply below_drew1 | refine below_set ?_ GE151.out) | exact HB.out)⟩⟩
          case round =>
           clear H'
           try clear c1
           try clear p1
           try clear q1
           try clear hx1
           try clear c2
           try clear p2
           try clear c5
           try clear p6
           try clear c7
           try clear c9
           try clear c14
           try clear c15
           try clear p15
           try clear q15
           try clear hx15
           try clear c16
           try clear c16b0
           try clear c17
           try clear c17b0
           try clear c18
           try clear c18b0
           try clear c19
           try clear c19b0
           try clear c19b1
           try clear hcz10_0
           try clear hcz10_1
           try clear hcz10_2
           try clear hcz10_3
           try clear hcz11_0
           try clear hcz11_1
           try clear hcz11_2
           try clear hcz11_3
           try clear hcz12_0
           try clear hcz12_1
           try clear hcz12_2
           try clear hcz12_3
           try clear hcz13_0
           try clear hcz13_1
           try clear hcz13_2
           try clear hcz13_3
           try clear hcz15_0
           try clear hcz15_1
           try clear hcz15_2
           try clear hcz15_3
           try clear hfz10_0
           try clear hfz10_1
           try clear hfz10_2
           try clear hfz10_3
           try clear hfz11_0
           try clear hfz11_1
           try clear hfz11_2
           try clear hfz11_3
           try clear hfz12_0
           try clear hfz12_1
           try clear hfz12_2
           try clear hfz12_3
           try clear hfz13_0
           try clear hfz13_1
           try clear hfz13_2
           try clear hfz13_3
           try clear hfz15_0
           try clear hfz15_1
           try clear hfz15_2
           try clear hfz15_3
           try clear hx155_0
           try clear p155
           try clear p2
           try clear p6
           try clear q155
           obtain ⟨x3_3, x48_3, rfl, HA, HK3, HO_3, BK151, HB⟩ := hrel
           cases gk with
           | zero => exact absurd HA.out (by simp [spec_GoodVersion.l1])
           | succ k3 =>
            have H := HA.out; clear HA; simp only [spec_GoodVersion.l1] at H
            by_cases c20 : x48_3 < ((rd_L5 l0_3 x38_2).length : Int)
            ·rw [if_pos c20] at H
             have c20b0 : decide (x48_3 < ((rd_L5 l0_3 x38_2).length : Int)) = true := decide_eq_true c20; clear c20
             by_cases c21 : 0 ≤ x48_3
             ·rw [if_pos c21] at H
              have c21b0 : decide (0 ≤ x48_3) = true := decide_eq_true c21; clear c21
              by_cases c22 : x48_3 < ((rd_L5 l0_3 x38_2).length : Int)
              ·rw [if_pos c22] at H
               have c22b0 : decide (x48_3 < ((rd_L5 l0_3 x38_2).length : Int)) = true := decide_eq_true c22; clear c22; have HC23 := Aside0.mk H; clear H; have p156 : 0 ≤ (x48_3 : Int) := of_decide_eq_true (by first | (with_reducible assumption) | assumption); have q156 : x48_3 < ((rd_L5 l0_3 x38_2).length : Int) := of_decide_eq_true (by first | (with_reducible assumption) | assumption); obtain ⟨ad156, e156, hx156_0, hx156_1, hx156_2, hx156_3⟩ := at_T60 HR155_0.out x48_3 p156 q156
               cases e156
               try (replace hx156_0 := (HB.out.cell (World.block_lt_of_cell? w _ hx156_0)).trans hx156_0)
               try (replace hx156_1 := (HB.out.cell (World.block_lt_of_cell? w _ hx156_1)).trans hx156_1)
               try (replace hx156_2 := (HB.out.cell (World.block_lt_of_cell? w _ hx156_2)).trans hx156_2)
               try (replace hx156_3 := (HB.out.cell (World.block_lt_of_cell? w _ hx156_3)).trans hx156_3)
               replace p156 := eq_true p156; replace q156 := eq_true q156
               go_upto_region 12 with (first | ((with_reducible refine gate_dst (N := 7) rfl ?_); (try (refine gate_guard (by rfl) ?_; dsimp only)); refine box_event ?hg (N := 7) ?hd (cs := #[.int .i64 0, .string (⟨#[]⟩ : ByteArray), .string (⟨#[]⟩ : ByteArray), .int .i64 0]) (t := 60) ?hr ?_; (case hd => rfl); (case hg => rfl); (case hr => first | (go_simp; done) | (go_simp; rfl)); intro gb157 hg w24 hbox hb; have n0_ := Aside0.mk (Kd.R_below (by (with_reducible repeat (first | apply Kd.R_alloc | apply Kd.R_drewN | apply Kd.R_drew)); exact HO_3.out) hb); have n1_ := Aside0.mk (blk_below (g := gb151) (o := .cells #[.int .i64 a0_0, .int .i64 a0_1, .int .i64 a0_2, .slice (some ad155) l0_3.length c0_3] 29 (0, 0)) (by (with_reducible repeat (first | refine blk_drewN ?_ _ | refine blk_drew ?_ | refine blk_alloc ?_ _)); exact BK151.out) hb); have n2_ := Aside0.mk (below_step (by repeat (first | (with_reducible first | exact HB.out | apply below_alloc | apply pw_below_drewN | apply below_drew1 | refine below_set ?_ GE151.out) | exact HB.out)) hb); have n3_ := Aside0.mk (hbox); have n4_ := Aside0.mk ((by rw [hg]; exact (below_size (by repeat (first | (with_reducible first | exact HB.out | apply below_alloc | apply pw_below_drewN | apply below_drew1 | refine below_set ?_ GE151.out) | exact HB.out))) : w.heap.size ≤ gb157)); have n5_ := Aside0.mk ((by rw [hg]; exact (below_size (by repeat (first | (with_reducible first | exact HB.out | apply below_alloc | apply pw_below_drewN | apply below_drew1 | refine below_set ?_ GE151.out) | exact HB.out))) : w.heap.size ≤ gb157)); have n6_ := Aside0.mk ((by rw [hg]; exact Nat.ne_of_lt (blk_lt (g := gb151) (o := .cells #[.int .i64 a0_0, .int .i64 a0_1, .int .i64 a0_2, .slice (some ad155) l0_3.length c0_3] 29 (0, 0)) (by (with_reducible repeat (first | refine blk_drewN ?_ _ | refine blk_drew ?_ | refine blk_alloc ?_ _)); exact BK151.out)) : gb151 ≠ gb157)); have n7_ := Aside0.mk ((by rw [hg]; exact Nat.ne_of_gt (blk_lt (g := gb151) (o := .cells #[.int .i64 a0_0, .int .i64 a0_1, .int .i64 a0_2, .slice (some ad155) l0_3.length c0_3] 29 (0, 0)) (by (with_reducible repeat (first | refine blk_drewN ?_ _ | refine blk_drew ?_ | refine blk_alloc ?_ _)); exact BK151.out)) : gb157 ≠ gb151)); clear HO_3; clear BK151; clear HB; have HO_3 := n0_; have BK151 := n1_; have HB := n2_; have BK157 := n3_; have GW157 := n4_; have GE157 := n5_; have NB151_157 := n6_; have NB157_151 := n7_; clear n0_ n1_ n2_ n3_ n4_ n5_ n6_ n7_; clear hb hbox hg; have hnb25 := NB157_151.out; have hnc25 := NB151_157.out; have hcz26_0 : w24.cell? ⟨gb157, 0, none⟩ = some (.int .i64 0) := (blk_cell BK157.out 0).trans rfl; have hcz26_1 : w24.cell? ⟨gb157, 1, none⟩ = some (.string (⟨#[]⟩ : ByteArray)) := (blk_cell BK157.out 1).trans rfl; have hcz26_2 : w24.cell? ⟨gb157, 2, none⟩ = some (.string (⟨#[]⟩ : ByteArray)) := (blk_cell BK157.out 2).trans rfl; have hcz26_3 : w24.cell? ⟨gb157, 3, none⟩ = some (.int .i64 0) := (blk_cell BK157.out 3).trans rfl; have hfz26_0 := blk_frozen BK157.out 0; have hfz26_1 := blk_frozen BK157.out 1; have hfz26_2 := blk_frozen BK157.out 2; have hfz26_3 := blk_frozen BK157.out 3))
               (try simp only [Act.put, sq4_a, sq4_b, sq4_c])
               go_cut [88] (fun v88 wc => ∃ (kq : Nat) (x88_22 : Bool), v88 = .bool x88_22 ∧ Aside0 (spec_GoodVersion.j3 kq x3_3 x38_2 (rd_L5 l0_3 x38_2) l0_3 (l0_3.length : Int) x38_2 (rd_L5 l0_3 x38_2) ((rd_L5 l0_3 x38_2).length : Int) x48_3 x88_22 a0_0 a0_1 a0_2 l0_3 ((rd_T60 (rd_L5 l0_3 x38_2) x48_3).f0) ((rd_T60 (rd_L5 l0_3 x38_2) x48_3).f1) ((rd_T60 (rd_L5 l0_3 x38_2) x48_3).f2) ((rd_T60 (rd_L5 l0_3 x38_2) x48_3).f3) = some r) ∧ Aside0 (kq ≤ k3) ∧ Aside0 (Kd.R (Kd.int .i64) 3 wc w.heap.size (fun _ => True) u3 x3_3) ∧ Aside0 (wc.heap[gb151]? = some (.cells #[.int .i64 a0_0, .int .i64 a0_1, .int .i64 a0_2, (.slice (some ad155) l0_3.length c0_3)] 29 (0, 0))) ∧ Aside0 (wc.heap[gb157]? = some (.cells #[.int .i64 ((rd_T60 (rd_L5 l0_3 x38_2) x48_3).f0), .string ((rd_T60 (rd_L5 l0_3 x38_2) x48_3).f1), .string ((rd_T60 (rd_L5 l0_3 x38_2) x48_3).f2), .int .i64 ((rd_T60 (rd_L5 l0_3 x38_2) x48_3).f3)] 60 (0, 0))) ∧ Aside0 (Below w.heap.size w wc))
               case first =>
                have H := HC23.out; clear HC23; replace H := Option.bind_eq_some_iff.mp H; obtain ⟨t158, A270, H⟩ := H; replace H : (if t158 = true then (if ((rd_T60 (rd_L5 l0_3 x38_2) x48_3).f0) ≥ a0_0 then (spec_GoodVersion.j3 k3 x3_3 x38_2 (rd_L5 l0_3 x38_2) l0_3 (l0_3.length : Int) x38_2 (rd_L5 l0_3 x38_2) ((rd_L5 l0_3 x38_2).length : Int) x48_3 true a0_0 a0_1 a0_2 l0_3 ((rd_T60 (rd_L5 l0_3 x38_2) x48_3).f0) ((rd_T60 (rd_L5 l0_3 x38_2) x48_3).f1) ((rd_T60 (rd_L5 l0_3 x38_2) x48_3).f2) ((rd_T60 (rd_L5 l0_3 x38_2) x48_3).f3)) else (if ((rd_T60 (rd_L5 l0_3 x38_2) x48_3).f0) = a0_1 then (spec_GoodVersion.j3 k3 x3_3 x38_2 (rd_L5 l0_3 x38_2) l0_3 (l0_3.length : Int) x38_2 (rd_L5 l0_3 x38_2) ((rd_L5 l0_3 x38_2).length : Int) x48_3 true a0_0 a0_1 a0_2 l0_3 ((rd_T60 (rd_L5 l0_3 x38_2) x48_3).f0) ((rd_T60 (rd_L5 l0_3 x38_2) x48_3).f1) ((rd_T60 (rd_L5 l0_3 x38_2) x48_3).f2) ((rd_T60 (rd_L5 l0_3 x38_2) x48_3).f3)) else (if x38_2 > 0 then (if x48_3 > 0 then (if 0 ≤ (wrap64 (x48_3 - 1)) then (if (wrap64 (x48_3 - 1)) < ((rd_L5 l0_3 x38_2).length : Int) then (spec_GoodVersion.j3 k3 x3_3 x38_2 (rd_L5 l0_3 x38_2) l0_3 (l0_3.length : Int) x38_2 (rd_L5 l0_3 x38_2) ((rd_L5 l0_3 x38_2).length : Int) x48_3 (!(Op.bytesLess (((rd_T60 (rd_L5 l0_3 x38_2) (wrap64 (x48_3 - 1))).f2).toList) (((rd_T60 (rd_L5 l0_3 x38_2) x48_3).f1).toList))) a0_0 a0_1 a0_2 l0_3 ((rd_T60 (rd_L5 l0_3 x38_2) x48_3).f0) ((rd_T60 (rd_L5 l0_3 x38_2) x48_3).f1) ((rd_T60 (rd_L5 l0_3 x38_2) x48_3).f2) ((rd_T60 (rd_L5 l0_3 x38_2) x48_3).f3)) else (none)) else (none)) else (spec_GoodVersion.j3 k3 x3_3 x38_2 (rd_L5 l0_3 x38_2) l0_3 (l0_3.length : Int) x38_2 (rd_L5 l0_3 x38_2) ((rd_L5 l0_3 x38_2).length : Int) x48_3 false a0_0 a0_1 a0_2 l0_3 ((rd_T60 (rd_L5 l0_3 x38_2) x48_3).f0) ((rd_T60 (rd_L5 l0_3 x38_2) x48_3).f1) ((rd_T60 (rd_L5 l0_3 x38_2) x48_3).f2) ((rd_T60 (rd_L5 l0_3 x38_2) x48_3).f3))) else (spec_GoodVersion.j3 k3 x3_3 x38_2 (rd_L5 l0_3 x38_2) l0_3 (l0_3.length : Int) x38_2 (rd_L5 l0_3 x38_2) ((rd_L5 l0_3 x38_2).length : Int) x48_3 false a0_0 a0_1 a0_2 l0_3 ((rd_T60 (rd_L5 l0_3 x38_2) x48_3).f0) ((rd_T60 (rd_L5 l0_3 x38_2) x48_3).f1) ((rd_T60 (rd_L5 l0_3 x38_2) x48_3).f2) ((rd_T60 (rd_L5 l0_3 x38_2) x48_3).f3))))) else (spec_GoodVersion.j3 k3 x3_3 x38_2 (rd_L5 l0_3 x38_2) l0_3 (l0_3.length : Int) x38_2 (rd_L5 l0_3 x38_2) ((rd_L5 l0_3 x38_2).length : Int) x48_3 true a0_0 a0_1 a0_2 l0_3 ((rd_T60 (rd_L5 l0_3 x38_2) x48_3).f0) ((rd_T60 (rd_L5 l0_3 x38_2) x48_3).f1) ((rd_T60 (rd_L5 l0_3 x38_2) x48_3).f2) ((rd_T60 (rd_L5 l0_3 x38_2) x48_3).f3))) = some r := H; have A27 := Aside0.mk A270; clear A270
                by_cases c28 : t158 = true
                ·subst c28
                 have H1 : (if ((rd_T60 (rd_L5 l0_3 x38_2) x48_3).f0) ≥ a0_0 then (spec_GoodVersion.j3 k3 x3_3 x38_2 (rd_L5 l0_3 x38_2) l0_3 (l0_3.length : Int) x38_2 (rd_L5 l0_3 x38_2) ((rd_L5 l0_3 x38_2).length : Int) x48_3 true a0_0 a0_1 a0_2 l0_3 ((rd_T60 (rd_L5 l0_3 x38_2) x48_3).f0) ((rd_T60 (rd_L5 l0_3 x38_2) x48_3).f1) ((rd_T60 (rd_L5 l0_3 x38_2) x48_3).f2) ((rd_T60 (rd_L5 l0_3 x38_2) x48_3).f3)) else (if ((rd_T60 (rd_L5 l0_3 x38_2) x48_3).f0) = a0_1 then (spec_GoodVersion.j3 k3 x3_3 x38_2 (rd_L5 l0_3 x38_2) l0_3 (l0_3.length : Int) x38_2 (rd_L5 l0_3 x38_2) ((rd_L5 l0_3 x38_2).length : Int) x48_3 true a0_0 a0_1 a0_2 l0_3 ((rd_T60 (rd_L5 l0_3 x38_2) x48_3).f0) ((rd_T60 (rd_L5 l0_3 x38_2) x48_3).f1) ((rd_T60 (rd_L5 l0_3 x38_2) x48_3).f2) ((rd_T60 (rd_L5 l0_3 x38_2) x48_3).f3)) else (if x38_2 > 0 then (if x48_3 > 0 then (if 0 ≤ (wrap64 (x48_3 - 1)) then (if (wrap64 (x48_3 - 1)) < ((rd_L5 l0_3 x38_2).length : Int) then (spec_GoodVersion.j3 k3 x3_3 x38_2 (rd_L5 l0_3 x38_2) l0_3 (l0_3.length : Int) x38_2 (rd_L5 l0_3 x38_2) ((rd_L5 l0_3 x38_2).length : Int) x48_3 (!(Op.bytesLess (((rd_T60 (rd_L5 l0_3 x38_2) (wrap64 (x48_3 - 1))).f2).toList) (((rd_T60 (rd_L5 l0_3 x38_2) x48_3).f1).toList))) a0_0 a0_1 a0_2 l0_3 ((rd_T60 (rd_L5 l0_3 x38_2) x48_3).f0) ((rd_T60 (rd_L5 l0_3 x38_2) x48_3).f1) ((rd_T60 (rd_L5 l0_3 x38_2) x48_3).f2) ((rd_T60 (rd_L5 l0_3 x38_2) x48_3).f3)) else (none)) else (none)) else (spec_GoodVersion.j3 k3 x3_3 x38_2 (rd_L5 l0_3 x38_2) l0_3 (l0_3.length : Int) x38_2 (rd_L5 l0_3 x38_2) ((rd_L5 l0_3 x38_2).length : Int) x48_3 false a0_0 a0_1 a0_2 l0_3 ((rd_T60 (rd_L5 l0_3 x38_2) x48_3).f0) ((rd_T60 (rd_L5 l0_3 x38_2) x48_3).f1) ((rd_T60 (rd_L5 l0_3 x38_2) x48_3).f2) ((rd_T60 (rd_L5 l0_3 x38_2) x48_3).f3))) else (spec_GoodVersion.j3 k3 x3_3 x38_2 (rd_L5 l0_3 x38_2) l0_3 (l0_3.length : Int) x38_2 (rd_L5 l0_3 x38_2) ((rd_L5 l0_3 x38_2).length : Int) x48_3 false a0_0 a0_1 a0_2 l0_3 ((rd_T60 (rd_L5 l0_3 x38_2) x48_3).f0) ((rd_T60 (rd_L5 l0_3 x38_2) x48_3).f1) ((rd_T60 (rd_L5 l0_3 x38_2) x48_3).f2) ((rd_T60 (rd_L5 l0_3 x38_2) x48_3).f3))))) = some r := by rw [if_pos rfl] at H; exact H
                 clear H; have H := H1; clear H1
                 by_cases c29 : ((rd_T60 (rd_L5 l0_3 x38_2) x48_3).f0) ≥ a0_0
                 ·rw [if_pos c29] at H
                  have c29b0 : decide (a0_0 ≤ ((rd_T60 (rd_L5 l0_3 x38_2) x48_3).f0)) = true := decide_eq_true c29; clear c29; (first | rw [c29b0] | (simp only [i64_w, i32_w]; rw [c29b0]) | skip); have H' := Aside0.mk H; clear H
                  try go_wp2
                  have n0_ : Aside0 (Kd.R (Kd.int .i64) 3 ((((w24.setCell ⟨gb157, 0, none⟩ (.int .i64 ((rd_T60 (rd_L5 l0_3 x38_2) x48_3).f0))).setCell ⟨gb157, 1, none⟩ (.string ((rd_T60 (rd_L5 l0_3 x38_2) x48_3).f1))).setCell ⟨gb157, 2, none⟩ (.string ((rd_T60 (rd_L5 l0_3 x38_2) x48_3).f2))).setCell ⟨gb157, 3, none⟩ (.int .i64 ((rd_T60 (rd_L5 l0_3 x38_2) x48_3).f3))) w.heap.size (fun _ => True) u3 x3_3) := ⟨by (with_reducible repeat (first | apply Kd.R_alloc | apply Kd.R_drewN | apply Kd.R_drew)); exact Kd.R_mono (Kd.R_far (p := ⟨gb157, 3, none⟩) (Kd.R_far (p := ⟨gb157, 2, none⟩) (Kd.R_far (p := ⟨gb157, 1, none⟩) (Kd.R_far (p := ⟨gb157, 0, none⟩) (Kd.R_types HO_3.out BK157.out (by decide)) (fun _ hk => hk.2) (.int .i64 ((rd_T60 (rd_L5 l0_3 x38_2) x48_3).f0))) (fun _ hk => hk.2) (.string ((rd_T60 (rd_L5 l0_3 x38_2) x48_3).f1))) (fun _ hk => hk.2) (.string ((rd_T60 (rd_L5 l0_3 x38_2) x48_3).f2))) (fun _ hk => hk.2) (.int .i64 ((rd_T60 (rd_L5 l0_3 x38_2) x48_3).f3))) (fun _ hk => trivial)⟩; have n1_ : Aside0 (((((w24.setCell ⟨gb157, 0, none⟩ (.int .i64 ((rd_T60 (rd_L5 l0_3 x38_2) x48_3).f0))).setCell ⟨gb157, 1, none⟩ (.string ((rd_T60 (rd_L5 l0_3 x38_2) x48_3).f1))).setCell ⟨gb157, 2, none⟩ (.string ((rd_T60 (rd_L5 l0_3 x38_2) x48_3).f2))).setCell ⟨gb157, 3, none⟩ (.int .i64 ((rd_T60 (rd_L5 l0_3 x38_2) x48_3).f3))).heap[gb151]? = some (.cells #[.int .i64 a0_0, .int .i64 a0_1, .int .i64 a0_2, .slice (some ad155) l0_3.length c0_3] 29 (0, 0))) := ⟨by (with_reducible repeat (first | refine blk_drewN ?_ _ | refine blk_drew ?_ | refine blk_alloc ?_ _)); refine blk_far ?_ NB151_157.out _; (with_reducible repeat (first | refine blk_drewN ?_ _ | refine blk_drew ?_ | refine blk_alloc ?_ _)); refine blk_far ?_ NB151_157.out _; (with_reducible repeat (first | refine blk_drewN ?_ _ | refine blk_drew ?_ | refine blk_alloc ?_ _)); refine blk_far ?_ NB151_157.out _; (with_reducible repeat (first | refine blk_drewN ?_ _ | refine blk_drew ?_ | refine blk_alloc ?_ _)); refine blk_far ?_ NB151_157.out _; (with_reducible repeat (first | refine blk_drewN ?_ _ | refine blk_drew ?_ | refine blk_alloc ?_ _)); exact BK151.out⟩; have n2_ : Aside0 (((((w24.setCell ⟨gb157, 0, none⟩ (.int .i64 ((rd_T60 (rd_L5 l0_3 x38_2) x48_3).f0))).setCell ⟨gb157, 1, none⟩ (.string ((rd_T60 (rd_L5 l0_3 x38_2) x48_3).f1))).setCell ⟨gb157, 2, none⟩ (.string ((rd_T60 (rd_L5 l0_3 x38_2) x48_3).f2))).setCell ⟨gb157, 3, none⟩ (.int .i64 ((rd_T60 (rd_L5 l0_3 x38_2) x48_3).f3))).heap[gb157]? = some (.cells #[.int .i64 ((rd_T60 (rd_L5 l0_3 x38_2) x48_3).f0), .string ((rd_T60 (rd_L5 l0_3 x38_2) x48_3).f1), .string ((rd_T60 (rd_L5 l0_3 x38_2) x48_3).f2), .int .i64 ((rd_T60 (rd_L5 l0_3 x38_2) x48_3).f3)] 60 (0, 0))) := ⟨by (with_reducible repeat (first | refine blk_drewN ?_ _ | refine blk_drew ?_ | refine blk_alloc ?_ _)); refine blk_put (cs := #[.int .i64 ((rd_T60 (rd_L5 l0_3 x38_2) x48_3).f0), .string ((rd_T60 (rd_L5 l0_3 x38_2) x48_3).f1), .string ((rd_T60 (rd_L5 l0_3 x38_2) x48_3).f2), .int .i64 0]) ?_ 3 _ rfl; (with_reducible repeat (first | refine blk_drewN ?_ _ | refine blk_drew ?_ | refine blk_alloc ?_ _)); refine blk_put (cs := #[.int .i64 ((rd_T60 (rd_L5 l0_3 x38_2) x48_3).f0), .string ((rd_T60 (rd_L5 l0_3 x38_2) x48_3).f1), .string (⟨#[]⟩ : ByteArray), .int .i64 0]) ?_ 2 _ rfl; (with_reducible repeat (first | refine blk_drewN ?_ _ | refine blk_drew ?_ | refine blk_alloc ?_ _)); refine blk_put (cs := #[.int .i64 ((rd_T60 (rd_L5 l0_3 x38_2) x48_3).f0), .string (⟨#[]⟩ : ByteArray), .string (⟨#[]⟩ : ByteArray), .int .i64 0]) ?_ 1 _ rfl; (with_reducible repeat (first | refine blk_drewN ?_ _ | refine blk_drew ?_ | refine blk_alloc ?_ _)); refine blk_put (cs := #[.int .i64 0, .string (⟨#[]⟩ : ByteArray), .string (⟨#[]⟩ : ByteArray), .int .i64 0]) ?_ 0 _ rfl; (with_reducible repeat (first | refine blk_drewN ?_ _ | refine blk_drew ?_ | refine blk_alloc ?_ _)); exact BK157.out⟩
                  have n3_ : Aside0 (Below w.heap.size w ((((w24.setCell ⟨gb157, 0, none⟩ (.int .i64 ((rd_T60 (rd_L5 l0_3 x38_2) x48_3).f0))).setCell ⟨gb157, 1, none⟩ (.string ((rd_T60 (rd_L5 l0_3 x38_2) x48_3).f1))).setCell ⟨gb157, 2, none⟩ (.string ((rd_T60 (rd_L5 l0_3 x38_2) x48_3).f2))).setCell ⟨gb157, 3, none⟩ (.int .i64 ((rd_T60 (rd_L5 l0_3 x38_2) x48_3).f3)))) := ⟨by repeat (first | (with_reducible first | exact HB.out | apply below_alloc | apply pw_below_drewN | apply below_drew1 | refine below_set ?_ GE151.out | refine below_set ?_ GE157.out) | exact HB.out)⟩; (try clear HO_3); (try clear BK151); (try clear BK157); (try clear HB); generalize ((((w24.setCell ⟨gb157, 0, none⟩ (.int .i64 ((rd_T60 (rd_L5 l0_3 x38_2) x48_3).f0))).setCell ⟨gb157, 1, none⟩ (.string ((rd_T60 (rd_L5 l0_3 x38_2) x48_3).f1))).setCell ⟨gb157, 2, none⟩ (.string ((rd_T60 (rd_L5 l0_3 x38_2) x48_3).f2))).setCell ⟨gb157, 3, none⟩ (.int .i64 ((rd_T60 (rd_L5 l0_3 x38_2) x48_3).f3))) = w30 at n0_ n1_ n2_ n3_ ⊢; have HO_3 := n0_; have BK151 := n1_; have BK157 := n2_; have HB := n3_; clear n0_ n1_ n2_ n3_; have n0_ := Aside0.mk (Kd.R_drew HO_3.out); have n1_ := Aside0.mk (blk_drew BK151.out); have n2_ := Aside0.mk (blk_drew BK157.out); have n3_ := Aside0.mk (below_drew1 HB.out); clear HO_3; clear BK151; clear BK157; clear HB; have HO_3 := n0_; have BK151 := n1_; have BK157 := n2_; have HB := n3_; clear n0_ n1_ n2_ n3_
                  refine start_ (n := 36) (S := fun w' => w'.cell? ⟨gb157, 0, none⟩ = some (.int .i64 ((rd_T60 (rd_L5 l0_3 x38_2) x48_3).f0)) ∧ w'.cell? ⟨gb157, 1, none⟩ = some (.string ((rd_T60 (rd_L5 l0_3 x38_2) x48_3).f1)) ∧ w'.cell? ⟨gb157, 2, none⟩ = some (.string ((rd_T60 (rd_L5 l0_3 x38_2) x48_3).f2)) ∧ w'.cell? ⟨gb157, 3, none⟩ = some (.int .i64 ((rd_T60 (rd_L5 l0_3 x38_2) x48_3).f3)) ∧ w'.cell? ⟨gb151, 0, none⟩ = some (.int .i64 a0_0) ∧ w'.cell? ⟨gb151, 1, none⟩ = some (.int .i64 a0_1) ∧ w'.cell? ⟨gb151, 2, none⟩ = some (.int .i64 a0_2) ∧ w'.cell? ⟨gb151, 3, none⟩ = some (.slice (some ad155) l0_3.length c0_3)) (ds := []) bq4_0 (by kernel_rfl) rfl rfl ⟨(blk_cell BK157.out 0).trans rfl, (blk_cell BK157.out 1).trans rfl, (blk_cell BK157.out 2).trans rfl, (blk_cell BK157.out 3).trans rfl, (blk_cell BK151.out 0).trans rfl, (blk_cell BK151.out 1).trans rfl, (blk_cell BK151.out 2).trans rfl, (blk_cell BK151.out 3).trans rfl⟩ (fun hHeld => ?_); refine with_tabW spec_GoodVersion.tab12 spec_GoodVersion.bits12 (fun HT_ HW_ => ?_)
                  generalize w30.drew = w31 at HO_3 BK151 BK157 HB hHeld ⊢; refine take_ (i := 0) (N := some 53) (v := ?_) (a' := ?_) bq4_1 rfl rfl (take_ofW HT_.out HW_.out (by kernel_rfl)) (fun _ _ _ h => h) (Or.inl ⟨by rfl, ?_⟩) hHeld ?_ ?_; rotate_left; · rintro w' ⟨s0, s1, s2, s3, s4, s5, s6, s7⟩; go_simp; with_reducible rfl
                  rotate_left; · simp only [Act.put, sq4_a, sq4_b, sq4_c, i64_w, i32_w]; rfl
                  refine one_ (i := 1) (N := some 54) bq4_2 rfl rfl (one_of HT_.out (by kernel_rfl)) (by decide) (fun K hK => ?_); refine goes_ Try.func29 (by kernel_rfl) rfl #[.agg #[.int .i64 ((rd_T60 (rd_L5 l0_3 x38_2) x48_3).f0), .string ((rd_T60 (rd_L5 l0_3 x38_2) x48_3).f1), .string ((rd_T60 (rd_L5 l0_3 x38_2) x48_3).f2), .int .i64 ((rd_T60 (rd_L5 l0_3 x38_2) x48_3).f3)]] (by rfl) rfl rfl (by (try simp only [List.map_toArray, List.map_cons, List.map_nil]); first | done | rfl | (simp only [List.length_drop, List.length_take]; rfl)) ?_; (with_reducible refine (spec_l9Meta.calls ((rd_T60 (rd_L5 l0_3 x38_2) x48_3).f0) ((rd_T60 (rd_L5 l0_3 x38_2) x48_3).f1) ((rd_T60 (rd_L5 l0_3 x38_2) x48_3).f2) ((rd_T60 (rd_L5 l0_3 x38_2) x48_3).f3) true _ A27.out).mono ?_); rintro e w32 ⟨rfl, hb⟩; refine ⟨_, rfl, ?_⟩; have n0_ := Aside0.mk (Kd.R_below (by (with_reducible repeat (first | apply Kd.R_alloc | apply Kd.R_drewN | apply Kd.R_drew)); exact HO_3.out) hb); have n1_ := Aside0.mk (blk_below (g := gb151) (o := .cells #[.int .i64 a0_0, .int .i64 a0_1, .int .i64 a0_2, .slice (some ad155) l0_3.length c0_3] 29 (0, 0)) (by (with_reducible repeat (first | refine blk_drewN ?_ _ | refine blk_drew ?_ | refine blk_alloc ?_ _)); exact BK151.out) hb); have n2_ := Aside0.mk (blk_below (g := gb157) (o := .cells #[.int .i64 ((rd_T60 (rd_L5 l0_3 x38_2) x48_3).f0), .string ((rd_T60 (rd_L5 l0_3 x38_2) x48_3).f1), .string ((rd_T60 (rd_L5 l0_3 x38_2) x48_3).f2), .int .i64 ((rd_T60 (rd_L5 l0_3 x38_2) x48_3).f3)] 60 (0, 0)) (by (with_reducible repeat (first | refine blk_drewN ?_ _ | refine blk_drew ?_ | refine blk_alloc ?_ _)); exact BK157.out) hb); have n3_ := Aside0.mk (below_step (by repeat (first | (with_reducible first | exact HB.out | apply below_alloc | apply pw_below_drewN | apply below_drew1 | refine below_set ?_ GE151.out | refine below_set ?_ GE157.out) | exact HB.out)) hb); clear HO_3; clear BK151; clear BK157; clear HB; have HO_3 := n0_; have BK151 := n1_; have BK157 := n2_; have HB := n3_; clear n0_ n1_ n2_ n3_; (try clear hb); (try clear hb2); (try clear hk); (try clear hi); refine hK.out _ _ ⟨(blk_cell BK157.out 0).trans rfl, (blk_cell BK157.out 1).trans rfl, (blk_cell BK157.out 2).trans rfl, (blk_cell BK157.out 3).trans rfl, (blk_cell BK151.out 0).trans rfl, (blk_cell BK151.out 1).trans rfl, (blk_cell BK151.out 2).trans rfl, (blk_cell BK151.out 3).trans rfl⟩ (fun hHeld => ?_); clear hK K; refine norm_ (a' := ?_) ?_ ?_; rotate_left
                  ·show Act.put _ (some 54) _ = _
                   simp only [Act.put, sq4_a, sq4_b, sq4_c, i64_w, i32_w]; rfl
                  refine pure_ (i := 2) (N := some 55) (v := ?_) (a' := ?_) bq4_3 rfl rfl (any_of HT_.out (by kernel_rfl)) (fun _ _ _ h => h) (Or.inl ⟨by rfl, ?_⟩) ?_ ?_; rotate_left; · intro w'; go_simp; with_reducible rfl
                  rotate_left; · simp only [Act.put, sq4_a, sq4_b, sq4_c, i64_w, i32_w]; rfl
                  refine pure_ (i := 3) (N := some 56) (v := ?_) (a' := ?_) bq4_4 rfl rfl (any_of HT_.out (by kernel_rfl)) (fun _ _ _ h => h) (Or.inl ⟨by rfl, ?_⟩) ?_ ?_; rotate_left; · intro w'; go_simp; with_reducible rfl
                  rotate_left; · simp only [Act.put, sq4_a, sq4_b, sq4_c, i64_w, i32_w]; rfl
                  refine pure_ (i := 4) (N := some 57) (v := ?_) (a' := ?_) bq4_5 rfl rfl (any_of HT_.out (by kernel_rfl)) (fun _ _ _ h => h) (Or.inl ⟨by rfl, ?_⟩) ?_ ?_; rotate_left; · intro w'; go_simp; with_reducible rfl
                  rotate_left; · simp only [Act.put, sq4_a, sq4_b, sq4_c, i64_w, i32_w]; rfl
                  refine pure_ (i := 6) (N := some 59) (v := ?_) (a' := ?_) bq4_6 rfl rfl (any_of HT_.out (by kernel_rfl)) (fun _ _ _ h => h) (Or.inl ⟨by rfl, ?_⟩) ?_ ?_; rotate_left; · intro w'; go_simp; with_reducible rfl
                  rotate_left; · simp only [Act.put, sq4_a, sq4_b, sq4_c, i64_w, i32_w]; rfl
                  refine take_ (i := 5) (N := some 58) (v := ?_) (a' := ?_) bq4_7 rfl rfl (take_ofW HT_.out HW_.out (by kernel_rfl)) (fun _ _ _ h => h) (Or.inl ⟨by rfl, ?_⟩) hHeld ?_ ?_; rotate_left; · rintro w' ⟨s0, s1, s2, s3, s4, s5, s6, s7⟩; go_simp; with_reducible rfl
                  rotate_left; · simp only [Act.put, sq4_a, sq4_b, sq4_c, i64_w, i32_w]; rfl
                  refine take_ (i := 7) (N := some 60) (v := ?_) (a' := ?_) bq4_8 rfl rfl (take_ofW HT_.out HW_.out (by kernel_rfl)) (fun _ _ _ h => h) (Or.inl ⟨by rfl, ?_⟩) hHeld ?_ ?_; rotate_left; · rintro w' ⟨s0, s1, s2, s3, s4, s5, s6, s7⟩; go_simp; with_reducible rfl
                  rotate_left; · simp only [Act.put, sq4_a, sq4_b, sq4_c, i64_w, i32_w]; rfl
                  refine pure_ (i := 8) (N := some 61) (v := ?_) (a' := ?_) bq4_9 rfl rfl (any_of HT_.out (by kernel_rfl)) (fun _ _ _ h => h) (Or.inl ⟨by rfl, ?_⟩) ?_ ?_; rotate_left; · intro w'; go_simp; with_reducible rfl
                  rotate_left; · simp only [Act.put, sq4_a, sq4_b, sq4_c, i64_w, i32_w]; rfl
                  refine pure_ (i := 9) (N := some 62) (v := ?_) (a' := ?_) bq4_10 rfl rfl (any_of HT_.out (by kernel_rfl)) (fun _ _ _ h => h) (Or.inl ⟨by rfl, ?_⟩) ?_ ?_; rotate_left; · intro w'; go_simp; with_reducible rfl
                  rotate_left; · simp only [Act.put, sq4_a, sq4_b, sq4_c, i64_w, i32_w]; rfl
                  refine pure_ (i := 10) (N := some 63) (v := ?_) (a' := ?_) bq4_11 rfl rfl (any_of HT_.out (by kernel_rfl)) (fun _ _ _ h => h) (Or.inl ⟨by rfl, ?_⟩) ?_ ?_; rotate_left; · intro w'; go_simp; with_reducible rfl
                  rotate_left; · simp only [Act.put, sq4_a, sq4_b, sq4_c, i64_w, i32_w]; rfl
                  refine pure_ (i := 11) (N := some 64) (v := undef) (a' := ?_) bq4_12 rfl rfl (any_of HT_.out (by kernel_rfl)) (fun _ _ _ h => h) (Or.inr ⟨by rfl, rfl⟩) ?_ ?_; rotate_left; · simp only [Act.put, sq4_a, sq4_b, sq4_c, i64_w, i32_w]; rfl
                  refine pure_ (i := 12) (N := some 65) (v := undef) (a' := ?_) bq4_13 rfl rfl (any_of HT_.out (by kernel_rfl)) (fun _ _ _ h => h) (Or.inr ⟨by rfl, rfl⟩) ?_ ?_; rotate_left; · simp only [Act.put, sq4_a, sq4_b, sq4_c, i64_w, i32_w]; rfl
                  refine pure_ (i := 13) (N := some 66) (v := undef) (a' := ?_) bq4_14 rfl rfl (any_of HT_.out (by kernel_rfl)) (fun _ _ _ h => h) (Or.inr ⟨by rfl, rfl⟩) ?_ ?_; rotate_left; · simp only [Act.put, sq4_a, sq4_b, sq4_c, i64_w, i32_w]; rfl
                  refine pure_ (i := 14) (N := some 67) (v := undef) (a' := ?_) bq4_15 rfl rfl (any_of HT_.out (by kernel_rfl)) (fun _ _ _ h => h) (Or.inr ⟨by rfl, rfl⟩) ?_ ?_; rotate_left; · simp only [Act.put, sq4_a, sq4_b, sq4_c, i64_w, i32_w]; rfl
                  refine pure_ (i := 15) (N := some 68) (v := undef) (a' := ?_) bq4_16 rfl rfl (any_of HT_.out (by kernel_rfl)) (fun _ _ _ h => h) (Or.inr ⟨by rfl, rfl⟩) ?_ ?_; rotate_left; · simp only [Act.put, sq4_a, sq4_b, sq4_c, i64_w, i32_w]; rfl
                  refine pure_ (i := 16) (N := some 69) (v := ?_) (a' := ?_) bq4_17 rfl rfl (any_of HT_.out (by kernel_rfl)) (fun _ _ _ h => h) (Or.inl ⟨by rfl, ?_⟩) ?_ ?_; rotate_left; · intro w'; go_simp; with_reducible rfl
                  rotate_left; · simp only [Act.put, sq4_a, sq4_b, sq4_c, i64_w, i32_w]; rfl
                  refine pure_ (i := 17) (N := some 70) (v := ?_) (a' := ?_) bq4_18 rfl rfl (any_of HT_.out (by kernel_rfl)) (fun _ _ _ h => h) (Or.inl ⟨by rfl, ?_⟩) ?_ ?_; rotate_left; · intro w'; go_simp; with_reducible rfl
                  rotate_left; · simp only [Act.put, sq4_a, sq4_b, sq4_c, i64_w, i32_w]; rfl
                  refine pure_ (i := 18) (N := some 71) (v := undef) (a' := ?_) bq4_19 rfl rfl (any_of HT_.out (by kernel_rfl)) (fun _ _ _ h => h) (Or.inr ⟨by rfl, rfl⟩) ?_ ?_; rotate_left; · simp only [Act.put, sq4_a, sq4_b, sq4_c, i64_w, i32_w]; rfl
                  refine pure_ (i := 19) (N := some 72) (v := undef) (a' := ?_) bq4_20 rfl rfl (any_of HT_.out (by kernel_rfl)) (fun _ _ _ h => h) (Or.inr ⟨by rfl, rfl⟩) ?_ ?_; rotate_left; · simp only [Act.put, sq4_a, sq4_b, sq4_c, i64_w, i32_w]; rfl
                  refine pure_ (i := 20) (N := some 73) (v := undef) (a' := ?_) bq4_21 rfl rfl (any_of HT_.out (by kernel_rfl)) (fun _ _ _ h => h) (Or.inr ⟨by rfl, rfl⟩) ?_ ?_; rotate_left; · simp only [Act.put, sq4_a, sq4_b, sq4_c, i64_w, i32_w]; rfl
                  refine pure_ (i := 21) (N := some 74) (v := undef) (a' := ?_) bq4_22 rfl rfl (any_of HT_.out (by kernel_rfl)) (fun _ _ _ h => h) (Or.inr ⟨by rfl, rfl⟩) ?_ ?_; rotate_left; · simp only [Act.put, sq4_a, sq4_b, sq4_c, i64_w, i32_w]; rfl
                  refine pure_ (i := 22) (N := some 75) (v := undef) (a' := ?_) bq4_23 rfl rfl (any_of HT_.out (by kernel_rfl)) (fun _ _ _ h => h) (Or.inr ⟨by rfl, rfl⟩) ?_ ?_; rotate_left; · simp only [Act.put, sq4_a, sq4_b, sq4_c, i64_w, i32_w]; rfl
                  refine pure_ (i := 23) (N := some 76) (v := undef) (a' := ?_) bq4_24 rfl rfl (any_of HT_.out (by kernel_rfl)) (fun _ _ _ h => h) (Or.inr ⟨by rfl, rfl⟩) ?_ ?_; rotate_left; · simp only [Act.put, sq4_a, sq4_b, sq4_c, i64_w, i32_w]; rfl
                  refine pure_ (i := 24) (N := some 77) (v := undef) (a' := ?_) bq4_25 rfl rfl (any_of HT_.out (by kernel_rfl)) (fun _ _ _ h => h) (Or.inr ⟨by rfl, rfl⟩) ?_ ?_; rotate_left; · simp only [Act.put, sq4_a, sq4_b, sq4_c, i64_w, i32_w]; rfl
                  refine pure_ (i := 25) (N := some 78) (v := undef) (a' := ?_) bq4_26 rfl rfl (any_of HT_.out (by kernel_rfl)) (fun _ _ _ h => h) (Or.inr ⟨by rfl, rfl⟩) ?_ ?_; rotate_left; · simp only [Act.put, sq4_a, sq4_b, sq4_c, i64_w, i32_w]; rfl
                  refine pure_ (i := 26) (N := some 79) (v := undef) (a' := ?_) bq4_27 rfl rfl (any_of HT_.out (by kernel_rfl)) (fun _ _ _ h => h) (Or.inr ⟨by rfl, rfl⟩) ?_ ?_; rotate_left; · simp only [Act.put, sq4_a, sq4_b, sq4_c, i64_w, i32_w]; rfl
                  refine pure_ (i := 27) (N := some 80) (v := undef) (a' := ?_) bq4_28 rfl rfl (any_of HT_.out (by kernel_rfl)) (fun _ _ _ h => h) (Or.inr ⟨by rfl, rfl⟩) ?_ ?_; rotate_left; · simp only [Act.put, sq4_a, sq4_b, sq4_c, i64_w, i32_w]; rfl
                  refine pure_ (i := 28) (N := some 81) (v := undef) (a' := ?_) bq4_29 rfl rfl (any_of HT_.out (by kernel_rfl)) (fun _ _ _ h => h) (Or.inr ⟨by rfl, rfl⟩) ?_ ?_; rotate_left; · simp only [Act.put, sq4_a, sq4_b, sq4_c, i64_w, i32_w]; rfl
                  refine pure_ (i := 29) (N := some 82) (v := undef) (a' := ?_) bq4_30 rfl rfl (any_of HT_.out (by kernel_rfl)) (fun _ _ _ h => h) (Or.inr ⟨by rfl, rfl⟩) ?_ ?_; rotate_left; · simp only [Act.put, sq4_a, sq4_b, sq4_c, i64_w, i32_w]; rfl
                  refine pure_ (i := 30) (N := some 83) (v := undef) (a' := ?_) bq4_31 rfl rfl (any_of HT_.out (by kernel_rfl)) (fun _ _ _ h => h) (Or.inr ⟨by rfl, rfl⟩) ?_ ?_; rotate_left; · simp only [Act.put, sq4_a, sq4_b, sq4_c, i64_w, i32_w]; rfl
                  refine pure_ (i := 31) (N := some 84) (v := undef) (a' := ?_) bq4_32 rfl rfl (any_of HT_.out (by kernel_rfl)) (fun _ _ _ h => h) (Or.inr ⟨by rfl, rfl⟩) ?_ ?_; rotate_left; · simp only [Act.put, sq4_a, sq4_b, sq4_c, i64_w, i32_w]; rfl
                  refine pure_ (i := 32) (N := some 85) (v := undef) (a' := ?_) bq4_33 rfl rfl (any_of HT_.out (by kernel_rfl)) (fun _ _ _ h => h) (Or.inr ⟨by rfl, rfl⟩) ?_ ?_; rotate_left; · simp only [Act.put, sq4_a, sq4_b, sq4_c, i64_w, i32_w]; rfl
                  refine pure_ (i := 33) (N := some 86) (v := undef) (a' := ?_) bq4_34 rfl rfl (any_of HT_.out (by kernel_rfl)) (fun _ _ _ h => h) (Or.inr ⟨by rfl, rfl⟩) ?_ ?_; rotate_left; · simp only [Act.put, sq4_a, sq4_b, sq4_c, i64_w, i32_w]; rfl
                  refine pure_ (i := 34) (N := some 87) (v := undef) (a' := ?_) bq4_35 rfl rfl (any_of HT_.out (by kernel_rfl)) (fun _ _ _ h => h) (Or.inr ⟨by rfl, rfl⟩) ?_ ?_; rotate_left; · simp only [Act.put, sq4_a, sq4_b, sq4_c, i64_w, i32_w]; rfl
                  refine pure_ (i := 35) (N := some 88) (v := ?_) (a' := ?_) bq4_36 rfl rfl (any_of HT_.out (by kernel_rfl)) (fun _ _ _ h => h) (Or.inl ⟨by rfl, ?_⟩) ?_ ?_; rotate_left; · intro w'; go_simp; with_reducible rfl
                  rotate_left; · simp only [Act.put, sq4_a, sq4_b, sq4_c, i64_w, i32_w]; rfl
                  refine done_ (done_of HT_.out (by kernel_rfl)) ?_
                  try go_wp2
                  go_meet
                  case rel => exact ⟨_, (true), (by first | rfl | (simp; done) | (simp [*]; done)), H', ⟨by have := HJ1.out; have := HK2.out; have := HK3.out; first | omega | exact Nat.le_refl _⟩, ⟨by (with_reducible repeat (first | apply Kd.R_alloc | apply Kd.R_drewN | apply Kd.R_drew)); exact HO_3.out⟩, ⟨by (with_reducible repeat (first | refine blk_drewN ?_ _ | refine blk_drew ?_ | refine blk_alloc ?_ _)); exact BK151.out⟩, ⟨by (with_reducible repeat (first | refine blk_drewN ?_ _ | refine blk_drew ?_ | refine blk_alloc ?_ _)); exact BK157.out⟩, ⟨by repeat (first | (with_reducible first | exact HB.out | apply below_alloc | apply pw_below_drewN | apply below_drew1 | refine below_set ?_ GE151.out | refine below_set ?_ GE157.out) | exact HB.out)⟩⟩
                 ·rw [if_neg c29] at H
                  have c29b0 : decide (a0_0 ≤ ((rd_T60 (rd_L5 l0_3 x38_2) x48_3).f0)) = false := decide_eq_false c29; clear c29; (first | rw [c29b0] | (simp only [i64_w, i32_w]; rw [c29b0]) | skip)
                  by_cases c33 : ((rd_T60 (rd_L5 l0_3 x38_2) x48_3).f0) = a0_1
                  ·rw [if_pos c33] at H
                   have c33b0 : (((rd_T60 (rd_L5 l0_3 x38_2) x48_3).f0) == a0_1) = true := beq_iff_eq.mpr c33; have c33b1 : (((rd_T60 (rd_L5 l0_3 x38_2) x48_3).f0) != a0_1) = false := bne_eq_false_iff_eq.mpr c33; clear c33; have H' := Aside0.mk H; clear H
                   try go_wp2
                   have n0_ : Aside0 (Kd.R (Kd.int .i64) 3 ((((w24.setCell ⟨gb157, 0, none⟩ (.int .i64 ((rd_T60 (rd_L5 l0_3 x38_2) x48_3).f0))).setCell ⟨gb157, 1, none⟩ (.string ((rd_T60 (rd_L5 l0_3 x38_2) x48_3).f1))).setCell ⟨gb157, 2, none⟩ (.string ((rd_T60 (rd_L5 l0_3 x38_2) x48_3).f2))).setCell ⟨gb157, 3, none⟩ (.int .i64 ((rd_T60 (rd_L5 l0_3 x38_2) x48_3).f3))) w.heap.size (fun _ => True) u3 x3_3) := ⟨by (with_reducible repeat (first | apply Kd.R_alloc | apply Kd.R_drewN | apply Kd.R_drew)); exact Kd.R_mono (Kd.R_far (p := ⟨gb157, 3, none⟩) (Kd.R_far (p := ⟨gb157, 2, none⟩) (Kd.R_far (p := ⟨gb157, 1, none⟩) (Kd.R_far (p := ⟨gb157, 0, none⟩) (Kd.R_types HO_3.out BK157.out (by decide)) (fun _ hk => hk.2) (.int .i64 ((rd_T60 (rd_L5 l0_3 x38_2) x48_3).f0))) (fun _ hk => hk.2) (.string ((rd_T60 (rd_L5 l0_3 x38_2) x48_3).f1))) (fun _ hk => hk.2) (.string ((rd_T60 (rd_L5 l0_3 x38_2) x48_3).f2))) (fun _ hk => hk.2) (.int .i64 ((rd_T60 (rd_L5 l0_3 x38_2) x48_3).f3))) (fun _ hk => trivial)⟩; have n1_ : Aside0 (((((w24.setCell ⟨gb157, 0, none⟩ (.int .i64 ((rd_T60 (rd_L5 l0_3 x38_2) x48_3).f0))).setCell ⟨gb157, 1, none⟩ (.string ((rd_T60 (rd_L5 l0_3 x38_2) x48_3).f1))).setCell ⟨gb157, 2, none⟩ (.string ((rd_T60 (rd_L5 l0_3 x38_2) x48_3).f2))).setCell ⟨gb157, 3, none⟩ (.int .i64 ((rd_T60 (rd_L5 l0_3 x38_2) x48_3).f3))).heap[gb151]? = some (.cells #[.int .i64 a0_0, .int .i64 a0_1, .int .i64 a0_2, .slice (some ad155) l0_3.length c0_3] 29 (0, 0))) := ⟨by (with_reducible repeat (first | refine blk_drewN ?_ _ | refine blk_drew ?_ | refine blk_alloc ?_ _)); refine blk_far ?_ NB151_157.out _; (with_reducible repeat (first | refine blk_drewN ?_ _ | refine blk_drew ?_ | refine blk_alloc ?_ _)); refine blk_far ?_ NB151_157.out _; (with_reducible repeat (first | refine blk_drewN ?_ _ | refine blk_drew ?_ | refine blk_alloc ?_ _)); refine blk_far ?_ NB151_157.out _; (with_reducible repeat (first | refine blk_drewN ?_ _ | refine blk_drew ?_ | refine blk_alloc ?_ _)); refine blk_far ?_ NB151_157.out _; (with_reducible repeat (first | refine blk_drewN ?_ _ | refine blk_drew ?_ | refine blk_alloc ?_ _)); exact BK151.out⟩; have n2_ : Aside0 (((((w24.setCell ⟨gb157, 0, none⟩ (.int .i64 ((rd_T60 (rd_L5 l0_3 x38_2) x48_3).f0))).setCell ⟨gb157, 1, none⟩ (.string ((rd_T60 (rd_L5 l0_3 x38_2) x48_3).f1))).setCell ⟨gb157, 2, none⟩ (.string ((rd_T60 (rd_L5 l0_3 x38_2) x48_3).f2))).setCell ⟨gb157, 3, none⟩ (.int .i64 ((rd_T60 (rd_L5 l0_3 x38_2) x48_3).f3))).heap[gb157]? = some (.cells #[.int .i64 ((rd_T60 (rd_L5 l0_3 x38_2) x48_3).f0), .string ((rd_T60 (rd_L5 l0_3 x38_2) x48_3).f1), .string ((rd_T60 (rd_L5 l0_3 x38_2) x48_3).f2), .int .i64 ((rd_T60 (rd_L5 l0_3 x38_2) x48_3).f3)] 60 (0, 0))) := ⟨by (with_reducible repeat (first | refine blk_drewN ?_ _ | refine blk_drew ?_ | refine blk_alloc ?_ _)); refine blk_put (cs := #[.int .i64 ((rd_T60 (rd_L5 l0_3 x38_2) x48_3).f0), .string ((rd_T60 (rd_L5 l0_3 x38_2) x48_3).f1), .string ((rd_T60 (rd_L5 l0_3 x38_2) x48_3).f2), .int .i64 0]) ?_ 3 _ rfl; (with_reducible repeat (first | refine blk_drewN ?_ _ | refine blk_drew ?_ | refine blk_alloc ?_ _)); refine blk_put (cs := #[.int .i64 ((rd_T60 (rd_L5 l0_3 x38_2) x48_3).f0), .string ((rd_T60 (rd_L5 l0_3 x38_2) x48_3).f1), .string (⟨#[]⟩ : ByteArray), .int .i64 0]) ?_ 2 _ rfl; (with_reducible repeat (first | refine blk_drewN ?_ _ | refine blk_drew ?_ | refine blk_alloc ?_ _)); refine blk_put (cs := #[.int .i64 ((rd_T60 (rd_L5 l0_3 x38_2) x48_3).f0), .string (⟨#[]⟩ : ByteArray), .string (⟨#[]⟩ : ByteArray), .int .i64 0]) ?_ 1 _ rfl; (with_reducible repeat (first | refine blk_drewN ?_ _ | refine blk_drew ?_ | refine blk_alloc ?_ _)); refine blk_put (cs := #[.int .i64 0, .string (⟨#[]⟩ : ByteArray), .string (⟨#[]⟩ : ByteArray), .int .i64 0]) ?_ 0 _ rfl; (with_reducible repeat (first | refine blk_drewN ?_ _ | refine blk_drew ?_ | refine blk_alloc ?_ _)); exact BK157.out⟩
                   have n3_ : Aside0 (Below w.heap.size w ((((w24.setCell ⟨gb157, 0, none⟩ (.int .i64 ((rd_T60 (rd_L5 l0_3 x38_2) x48_3).f0))).setCell ⟨gb157, 1, none⟩ (.string ((rd_T60 (rd_L5 l0_3 x38_2) x48_3).f1))).setCell ⟨gb157, 2, none⟩ (.string ((rd_T60 (rd_L5 l0_3 x38_2) x48_3).f2))).setCell ⟨gb157, 3, none⟩ (.int .i64 ((rd_T60 (rd_L5 l0_3 x38_2) x48_3).f3)))) := ⟨by repeat (first | (with_reducible first | exact HB.out | apply below_alloc | apply pw_below_drewN | apply below_drew1 | refine below_set ?_ GE151.out | refine below_set ?_ GE157.out) | exact HB.out)⟩; (try clear HO_3); (try clear BK151); (try clear BK157); (try clear HB); generalize ((((w24.setCell ⟨gb157, 0, none⟩ (.int .i64 ((rd_T60 (rd_L5 l0_3 x38_2) x48_3).f0))).setCell ⟨gb157, 1, none⟩ (.string ((rd_T60 (rd_L5 l0_3 x38_2) x48_3).f1))).setCell ⟨gb157, 2, none⟩ (.string ((rd_T60 (rd_L5 l0_3 x38_2) x48_3).f2))).setCell ⟨gb157, 3, none⟩ (.int .i64 ((rd_T60 (rd_L5 l0_3 x38_2) x48_3).f3))) = w34 at n0_ n1_ n2_ n3_ ⊢; have HO_3 := n0_; have BK151 := n1_; have BK157 := n2_; have HB := n3_; clear n0_ n1_ n2_ n3_; have n0_ := Aside0.mk (Kd.R_drew HO_3.out); have n1_ := Aside0.mk (blk_drew BK151.out); have n2_ := Aside0.mk (blk_drew BK157.out); have n3_ := Aside0.mk (below_drew1 HB.out); clear HO_3; clear BK151; clear BK157; clear HB; have HO_3 := n0_; have BK151 := n1_; have BK157 := n2_; have HB := n3_; clear n0_ n1_ n2_ n3_
                   refine start_ (n := 36) (S := fun w' => w'.cell? ⟨gb157, 0, none⟩ = some (.int .i64 ((rd_T60 (rd_L5 l0_3 x38_2) x48_3).f0)) ∧ w'.cell? ⟨gb157, 1, none⟩ = some (.string ((rd_T60 (rd_L5 l0_3 x38_2) x48_3).f1)) ∧ w'.cell? ⟨gb157, 2, none⟩ = some (.string ((rd_T60 (rd_L5 l0_3 x38_2) x48_3).f2)) ∧ w'.cell? ⟨gb157, 3, none⟩ = some (.int .i64 ((rd_T60 (rd_L5 l0_3 x38_2) x48_3).f3)) ∧ w'.cell? ⟨gb151, 0, none⟩ = some (.int .i64 a0_0) ∧ w'.cell? ⟨gb151, 1, none⟩ = some (.int .i64 a0_1) ∧ w'.cell? ⟨gb151, 2, none⟩ = some (.int .i64 a0_2) ∧ w'.cell? ⟨gb151, 3, none⟩ = some (.slice (some ad155) l0_3.length c0_3)) (ds := []) bq4_0 (by kernel_rfl) rfl rfl ⟨(blk_cell BK157.out 0).trans rfl, (blk_cell BK157.out 1).trans rfl, (blk_cell BK157.out 2).trans rfl, (blk_cell BK157.out 3).trans rfl, (blk_cell BK151.out 0).trans rfl, (blk_cell BK151.out 1).trans rfl, (blk_cell BK151.out 2).trans rfl, (blk_cell BK151.out 3).trans rfl⟩ (fun hHeld => ?_); refine with_tabW spec_GoodVersion.tab12 spec_GoodVersion.bits12 (fun HT_ HW_ => ?_)
                   generalize w34.drew = w35 at HO_3 BK151 BK157 HB hHeld ⊢; refine take_ (i := 0) (N := some 53) (v := ?_) (a' := ?_) bq4_1 rfl rfl (take_ofW HT_.out HW_.out (by kernel_rfl)) (fun _ _ _ h => h) (Or.inl ⟨by rfl, ?_⟩) hHeld ?_ ?_; rotate_left; · rintro w' ⟨s0, s1, s2, s3, s4, s5, s6, s7⟩; go_simp; with_reducible rfl
                   rotate_left; · simp only [Act.put, sq4_a, sq4_b, sq4_c, i64_w, i32_w]; rfl
                   refine one_ (i := 1) (N := some 54) bq4_2 rfl rfl (one_of HT_.out (by kernel_rfl)) (by decide) (fun K hK => ?_); refine goes_ Try.func29 (by kernel_rfl) rfl #[.agg #[.int .i64 ((rd_T60 (rd_L5 l0_3 x38_2) x48_3).f0), .string ((rd_T60 (rd_L5 l0_3 x38_2) x48_3).f1), .string ((rd_T60 (rd_L5 l0_3 x38_2) x48_3).f2), .int .i64 ((rd_T60 (rd_L5 l0_3 x38_2) x48_3).f3)]] (by rfl) rfl rfl (by (try simp only [List.map_toArray, List.map_cons, List.map_nil]); first | done | rfl | (simp only [List.length_drop, List.length_take]; rfl)) ?_; (with_reducible refine (spec_l9Meta.calls ((rd_T60 (rd_L5 l0_3 x38_2) x48_3).f0) ((rd_T60 (rd_L5 l0_3 x38_2) x48_3).f1) ((rd_T60 (rd_L5 l0_3 x38_2) x48_3).f2) ((rd_T60 (rd_L5 l0_3 x38_2) x48_3).f3) true _ A27.out).mono ?_); rintro e w36 ⟨rfl, hb⟩; refine ⟨_, rfl, ?_⟩; have n0_ := Aside0.mk (Kd.R_below (by (with_reducible repeat (first | apply Kd.R_alloc | apply Kd.R_drewN | apply Kd.R_drew)); exact HO_3.out) hb); have n1_ := Aside0.mk (blk_below (g := gb151) (o := .cells #[.int .i64 a0_0, .int .i64 a0_1, .int .i64 a0_2, .slice (some ad155) l0_3.length c0_3] 29 (0, 0)) (by (with_reducible repeat (first | refine blk_drewN ?_ _ | refine blk_drew ?_ | refine blk_alloc ?_ _)); exact BK151.out) hb); have n2_ := Aside0.mk (blk_below (g := gb157) (o := .cells #[.int .i64 ((rd_T60 (rd_L5 l0_3 x38_2) x48_3).f0), .string ((rd_T60 (rd_L5 l0_3 x38_2) x48_3).f1), .string ((rd_T60 (rd_L5 l0_3 x38_2) x48_3).f2), .int .i64 ((rd_T60 (rd_L5 l0_3 x38_2) x48_3).f3)] 60 (0, 0)) (by (with_reducible repeat (first | refine blk_drewN ?_ _ | refine blk_drew ?_ | refine blk_alloc ?_ _)); exact BK157.out) hb); have n3_ := Aside0.mk (below_step (by repeat (first | (with_reducible first | exact HB.out | apply below_alloc | apply pw_below_drewN | apply below_drew1 | refine below_set ?_ GE151.out | refine below_set ?_ GE157.out) | exact HB.out)) hb); clear HO_3; clear BK151; clear BK157; clear HB; have HO_3 := n0_; have BK151 := n1_; have BK157 := n2_; have HB := n3_; clear n0_ n1_ n2_ n3_; (try clear hb); (try clear hb2); (try clear hk); (try clear hi); refine hK.out _ _ ⟨(blk_cell BK157.out 0).trans rfl, (blk_cell BK157.out 1).trans rfl, (blk_cell BK157.out 2).trans rfl, (blk_cell BK157.out 3).trans rfl, (blk_cell BK151.out 0).trans rfl, (blk_cell BK151.out 1).trans rfl, (blk_cell BK151.out 2).trans rfl, (blk_cell BK151.out 3).trans rfl⟩ (fun hHeld => ?_); clear hK K; refine norm_ (a' := ?_) ?_ ?_; rotate_left
                   ·show Act.put _ (some 54) _ = _
                    simp only [Act.put, sq4_a, sq4_b, sq4_c, i64_w, i32_w]; rfl
                   refine pure_ (i := 2) (N := some 55) (v := ?_) (a' := ?_) bq4_3 rfl rfl (any_of HT_.out (by kernel_rfl)) (fun _ _ _ h => h) (Or.inl ⟨by rfl, ?_⟩) ?_ ?_; rotate_left; · intro w'; go_simp; with_reducible rfl
                   rotate_left; · simp only [Act.put, sq4_a, sq4_b, sq4_c, i64_w, i32_w]; rfl
                   refine pure_ (i := 3) (N := some 56) (v := ?_) (a' := ?_) bq4_4 rfl rfl (any_of HT_.out (by kernel_rfl)) (fun _ _ _ h => h) (Or.inl ⟨by rfl, ?_⟩) ?_ ?_; rotate_left; · intro w'; go_simp; with_reducible rfl
                   rotate_left; · simp only [Act.put, sq4_a, sq4_b, sq4_c, i64_w, i32_w]; rfl
                   refine pure_ (i := 4) (N := some 57) (v := ?_) (a' := ?_) bq4_5 rfl rfl (any_of HT_.out (by kernel_rfl)) (fun _ _ _ h => h) (Or.inl ⟨by rfl, ?_⟩) ?_ ?_; rotate_left; · intro w'; go_simp; with_reducible rfl
                   rotate_left; · simp only [Act.put, sq4_a, sq4_b, sq4_c, i64_w, i32_w]; rfl
                   refine pure_ (i := 6) (N := some 59) (v := ?_) (a' := ?_) bq4_6 rfl rfl (any_of HT_.out (by kernel_rfl)) (fun _ _ _ h => h) (Or.inl ⟨by rfl, ?_⟩) ?_ ?_; rotate_left; · intro w'; go_simp; with_reducible rfl
                   rotate_left; · simp only [Act.put, sq4_a, sq4_b, sq4_c, i64_w, i32_w]; rfl
                   refine take_ (i := 5) (N := some 58) (v := ?_) (a' := ?_) bq4_7 rfl rfl (take_ofW HT_.out HW_.out (by kernel_rfl)) (fun _ _ _ h => h) (Or.inl ⟨by rfl, ?_⟩) hHeld ?_ ?_; rotate_left; · rintro w' ⟨s0, s1, s2, s3, s4, s5, s6, s7⟩; go_simp; with_reducible rfl
                   rotate_left; · simp only [Act.put, sq4_a, sq4_b, sq4_c, i64_w, i32_w]; rfl
                   refine take_ (i := 7) (N := some 60) (v := ?_) (a' := ?_) bq4_8 rfl rfl (take_ofW HT_.out HW_.out (by kernel_rfl)) (fun _ _ _ h => h) (Or.inl ⟨by rfl, ?_⟩) hHeld ?_ ?_; rotate_left; · rintro w' ⟨s0, s1, s2, s3, s4, s5, s6, s7⟩; go_simp; with_reducible rfl
                   rotate_left; · simp only [Act.put, sq4_a, sq4_b, sq4_c, i64_w, i32_w]; rfl
                   refine pure_ (i := 8) (N := some 61) (v := ?_) (a' := ?_) bq4_9 rfl rfl (any_of HT_.out (by kernel_rfl)) (fun _ _ _ h => h) (Or.inl ⟨by rfl, ?_⟩) ?_ ?_; rotate_left; · intro w'; go_simp; with_reducible rfl
                   rotate_left; · simp only [Act.put, sq4_a, sq4_b, sq4_c, i64_w, i32_w]; rfl
                   refine pure_ (i := 9) (N := some 62) (v := ?_) (a' := ?_) bq4_10 rfl rfl (any_of HT_.out (by kernel_rfl)) (fun _ _ _ h => h) (Or.inl ⟨by rfl, ?_⟩) ?_ ?_; rotate_left; · intro w'; go_simp; with_reducible rfl
                   rotate_left; · simp only [Act.put, sq4_a, sq4_b, sq4_c, i64_w, i32_w]; rfl
                   refine pure_ (i := 10) (N := some 63) (v := ?_) (a' := ?_) bq4_11 rfl rfl (any_of HT_.out (by kernel_rfl)) (fun _ _ _ h => h) (Or.inl ⟨by rfl, ?_⟩) ?_ ?_; rotate_left; · intro w'; go_simp; with_reducible rfl
                   rotate_left; · simp only [Act.put, sq4_a, sq4_b, sq4_c, i64_w, i32_w]; rfl
                   refine pure_ (i := 11) (N := some 64) (v := ?_) (a' := ?_) bq4_12 rfl rfl (any_of HT_.out (by kernel_rfl)) (fun _ _ _ h => h) (Or.inl ⟨by rfl, ?_⟩) ?_ ?_; rotate_left; · intro w'; go_simp; with_reducible rfl
                   rotate_left; · simp only [Act.put, sq4_a, sq4_b, sq4_c, i64_w, i32_w]; rfl
                   refine pure_ (i := 13) (N := some 66) (v := ?_) (a' := ?_) bq4_37 rfl rfl (any_of HT_.out (by kernel_rfl)) (fun _ _ _ h => h) (Or.inl ⟨by rfl, ?_⟩) ?_ ?_; rotate_left; · intro w'; go_simp; with_reducible rfl
                   rotate_left; · simp only [Act.put, sq4_a, sq4_b, sq4_c, i64_w, i32_w]; rfl
                   refine take_ (i := 12) (N := some 65) (v := ?_) (a' := ?_) bq4_14 rfl rfl (take_ofW HT_.out HW_.out (by kernel_rfl)) (fun _ _ _ h => h) (Or.inl ⟨by rfl, ?_⟩) hHeld ?_ ?_; rotate_left; · rintro w' ⟨s0, s1, s2, s3, s4, s5, s6, s7⟩; go_simp; with_reducible rfl
                   rotate_left; · simp only [Act.put, sq4_a, sq4_b, sq4_c, i64_w, i32_w]; rfl
                   refine take_ (i := 14) (N := some 67) (v := ?_) (a' := ?_) bq4_15 rfl rfl (take_ofW HT_.out HW_.out (by kernel_rfl)) (fun _ _ _ h => h) (Or.inl ⟨by rfl, ?_⟩) hHeld ?_ ?_; rotate_left; · rintro w' ⟨s0, s1, s2, s3, s4, s5, s6, s7⟩; go_simp; with_reducible rfl
                   rotate_left; · simp only [Act.put, sq4_a, sq4_b, sq4_c, i64_w, i32_w]; rfl
                   refine pure_ (i := 15) (N := some 68) (v := ?_) (a' := ?_) bq4_16 rfl rfl (any_of HT_.out (by kernel_rfl)) (fun _ _ _ h => h) (Or.inl ⟨by rfl, ?_⟩) ?_ ?_; rotate_left; · intro w'; go_simp; with_reducible rfl
                   rotate_left; · simp only [Act.put, sq4_a, sq4_b, sq4_c, i64_w, i32_w]; rfl
                   refine pure_ (i := 16) (N := some 69) (v := ?_) (a' := ?_) bq4_17 rfl rfl (any_of HT_.out (by kernel_rfl)) (fun _ _ _ h => h) (Or.inl ⟨by rfl, ?_⟩) ?_ ?_; rotate_left; · intro w'; go_simp; with_reducible rfl
                   rotate_left; · simp only [Act.put, sq4_a, sq4_b, sq4_c, i64_w, i32_w]; rfl
                   refine pure_ (i := 17) (N := some 70) (v := ?_) (a' := ?_) bq4_18 rfl rfl (any_of HT_.out (by kernel_rfl)) (fun _ _ _ h => h) (Or.inl ⟨by rfl, ?_⟩) ?_ ?_; rotate_left; · intro w'; go_simp; with_reducible rfl
                   rotate_left; · simp only [Act.put, sq4_a, sq4_b, sq4_c, i64_w, i32_w]; rfl
                   refine pure_ (i := 18) (N := some 71) (v := undef) (a' := ?_) bq4_19 rfl rfl (any_of HT_.out (by kernel_rfl)) (fun _ _ _ h => h) (Or.inr ⟨by rfl, rfl⟩) ?_ ?_; rotate_left; · simp only [Act.put, sq4_a, sq4_b, sq4_c, i64_w, i32_w]; rfl
                   refine pure_ (i := 19) (N := some 72) (v := undef) (a' := ?_) bq4_20 rfl rfl (any_of HT_.out (by kernel_rfl)) (fun _ _ _ h => h) (Or.inr ⟨by rfl, rfl⟩) ?_ ?_; rotate_left; · simp only [Act.put, sq4_a, sq4_b, sq4_c, i64_w, i32_w]; rfl
                   refine pure_ (i := 20) (N := some 73) (v := undef) (a' := ?_) bq4_21 rfl rfl (any_of HT_.out (by kernel_rfl)) (fun _ _ _ h => h) (Or.inr ⟨by rfl, rfl⟩) ?_ ?_; rotate_left; · simp only [Act.put, sq4_a, sq4_b, sq4_c, i64_w, i32_w]; rfl
                   refine pure_ (i := 21) (N := some 74) (v := undef) (a' := ?_) bq4_22 rfl rfl (any_of HT_.out (by kernel_rfl)) (fun _ _ _ h => h) (Or.inr ⟨by rfl, rfl⟩) ?_ ?_; rotate_left; · simp only [Act.put, sq4_a, sq4_b, sq4_c, i64_w, i32_w]; rfl
                   refine pure_ (i := 22) (N := some 75) (v := undef) (a' := ?_) bq4_23 rfl rfl (any_of HT_.out (by kernel_rfl)) (fun _ _ _ h => h) (Or.inr ⟨by rfl, rfl⟩) ?_ ?_; rotate_left; · simp only [Act.put, sq4_a, sq4_b, sq4_c, i64_w, i32_w]; rfl
                   refine pure_ (i := 23) (N := some 76) (v := undef) (a' := ?_) bq4_24 rfl rfl (any_of HT_.out (by kernel_rfl)) (fun _ _ _ h => h) (Or.inr ⟨by rfl, rfl⟩) ?_ ?_; rotate_left; · simp only [Act.put, sq4_a, sq4_b, sq4_c, i64_w, i32_w]; rfl
                   refine pure_ (i := 24) (N := some 77) (v := undef) (a' := ?_) bq4_25 rfl rfl (any_of HT_.out (by kernel_rfl)) (fun _ _ _ h => h) (Or.inr ⟨by rfl, rfl⟩) ?_ ?_; rotate_left; · simp only [Act.put, sq4_a, sq4_b, sq4_c, i64_w, i32_w]; rfl
                   refine pure_ (i := 25) (N := some 78) (v := undef) (a' := ?_) bq4_26 rfl rfl (any_of HT_.out (by kernel_rfl)) (fun _ _ _ h => h) (Or.inr ⟨by rfl, rfl⟩) ?_ ?_; rotate_left; · simp only [Act.put, sq4_a, sq4_b, sq4_c, i64_w, i32_w]; rfl
                   refine pure_ (i := 26) (N := some 79) (v := undef) (a' := ?_) bq4_27 rfl rfl (any_of HT_.out (by kernel_rfl)) (fun _ _ _ h => h) (Or.inr ⟨by rfl, rfl⟩) ?_ ?_; rotate_left; · simp only [Act.put, sq4_a, sq4_b, sq4_c, i64_w, i32_w]; rfl
                   refine pure_ (i := 27) (N := some 80) (v := undef) (a' := ?_) bq4_28 rfl rfl (any_of HT_.out (by kernel_rfl)) (fun _ _ _ h => h) (Or.inr ⟨by rfl, rfl⟩) ?_ ?_; rotate_left; · simp only [Act.put, sq4_a, sq4_b, sq4_c, i64_w, i32_w]; rfl
                   refine pure_ (i := 28) (N := some 81) (v := undef) (a' := ?_) bq4_29 rfl rfl (any_of HT_.out (by kernel_rfl)) (fun _ _ _ h => h) (Or.inr ⟨by rfl, rfl⟩) ?_ ?_; rotate_left; · simp only [Act.put, sq4_a, sq4_b, sq4_c, i64_w, i32_w]; rfl
                   refine pure_ (i := 29) (N := some 82) (v := undef) (a' := ?_) bq4_30 rfl rfl (any_of HT_.out (by kernel_rfl)) (fun _ _ _ h => h) (Or.inr ⟨by rfl, rfl⟩) ?_ ?_; rotate_left; · simp only [Act.put, sq4_a, sq4_b, sq4_c, i64_w, i32_w]; rfl
                   refine pure_ (i := 30) (N := some 83) (v := undef) (a' := ?_) bq4_31 rfl rfl (any_of HT_.out (by kernel_rfl)) (fun _ _ _ h => h) (Or.inr ⟨by rfl, rfl⟩) ?_ ?_; rotate_left; · simp only [Act.put, sq4_a, sq4_b, sq4_c, i64_w, i32_w]; rfl
                   refine pure_ (i := 31) (N := some 84) (v := undef) (a' := ?_) bq4_32 rfl rfl (any_of HT_.out (by kernel_rfl)) (fun _ _ _ h => h) (Or.inr ⟨by rfl, rfl⟩) ?_ ?_; rotate_left; · simp only [Act.put, sq4_a, sq4_b, sq4_c, i64_w, i32_w]; rfl
                   refine pure_ (i := 32) (N := some 85) (v := undef) (a' := ?_) bq4_33 rfl rfl (any_of HT_.out (by kernel_rfl)) (fun _ _ _ h => h) (Or.inr ⟨by rfl, rfl⟩) ?_ ?_; rotate_left; · simp only [Act.put, sq4_a, sq4_b, sq4_c, i64_w, i32_w]; rfl
                   refine pure_ (i := 33) (N := some 86) (v := undef) (a' := ?_) bq4_34 rfl rfl (any_of HT_.out (by kernel_rfl)) (fun _ _ _ h => h) (Or.inr ⟨by rfl, rfl⟩) ?_ ?_; rotate_left; · simp only [Act.put, sq4_a, sq4_b, sq4_c, i64_w, i32_w]; rfl
                   refine pure_ (i := 34) (N := some 87) (v := undef) (a' := ?_) bq4_35 rfl rfl (any_of HT_.out (by kernel_rfl)) (fun _ _ _ h => h) (Or.inr ⟨by rfl, rfl⟩) ?_ ?_; rotate_left; · simp only [Act.put, sq4_a, sq4_b, sq4_c, i64_w, i32_w]; rfl
                   refine pure_ (i := 35) (N := some 88) (v := ?_) (a' := ?_) bq4_36 rfl rfl (any_of HT_.out (by kernel_rfl)) (fun _ _ _ h => h) (Or.inl ⟨by rfl, ?_⟩) ?_ ?_; rotate_left; · intro w'; go_simp; with_reducible rfl
                   rotate_left; · simp only [Act.put, sq4_a, sq4_b, sq4_c, i64_w, i32_w]; rfl
                   refine done_ (done_of HT_.out (by kernel_rfl)) ?_
                   try go_wp2
                   go_meet
                   case rel => exact ⟨_, (true), (by first | rfl | (simp; done) | (simp [*]; done)), H', ⟨by have := HJ1.out; have := HK2.out; have := HK3.out; first | omega | exact Nat.le_refl _⟩, ⟨by (with_reducible repeat (first | apply Kd.R_alloc | apply Kd.R_drewN | apply Kd.R_drew)); exact HO_3.out⟩, ⟨by (with_reducible repeat (first | refine blk_drewN ?_ _ | refine blk_drew ?_ | refine blk_alloc ?_ _)); exact BK151.out⟩, ⟨by (with_reducible repeat (first | refine blk_drewN ?_ _ | refine blk_drew ?_ | refine blk_alloc ?_ _)); exact BK157.out⟩, ⟨by repeat (first | (with_reducible first | exact HB.out | apply below_alloc | apply pw_below_drewN | apply below_drew1 | refine below_set ?_ GE151.out | refine below_set ?_ GE157.out) | exact HB.out)⟩⟩
                  ·rw [if_neg c33] at H
                   have c33b0 : (((rd_T60 (rd_L5 l0_3 x38_2) x48_3).f0) == a0_1) = false := beq_eq_false_iff_ne.mpr c33; have c33b1 : (((rd_T60 (rd_L5 l0_3 x38_2) x48_3).f0) != a0_1) = true := bne_iff_ne.mpr c33
                   by_cases c37 : x38_2 > 0
                   ·rw [if_pos c37] at H
                    have c37b0 : decide (0 < x38_2) = true := decide_eq_true c37; clear c37
                    by_cases c38 : x48_3 > 0
                    ·rw [if_pos c38] at H
                     have c38b0 : decide (0 < x48_3) = true := decide_eq_true c38; clear c38; obtain ⟨ji39, hji39⟩ : ∃ j_ : Int, (wrap64 (x48_3 - 1)) = j_ := ⟨_, rfl⟩
                     replace H : (if 0 ≤ (ji39) then (if (ji39) < ((rd_L5 l0_3 x38_2).length : Int) then (spec_GoodVersion.j3 k3 x3_3 x38_2 (rd_L5 l0_3 x38_2) l0_3 (l0_3.length : Int) x38_2 (rd_L5 l0_3 x38_2) ((rd_L5 l0_3 x38_2).length : Int) x48_3 (!(Op.bytesLess (((rd_T60 (rd_L5 l0_3 x38_2) (ji39)).f2).toList) (((rd_T60 (rd_L5 l0_3 x38_2) x48_3).f1).toList))) a0_0 a0_1 a0_2 l0_3 ((rd_T60 (rd_L5 l0_3 x38_2) x48_3).f0) ((rd_T60 (rd_L5 l0_3 x38_2) x48_3).f1) ((rd_T60 (rd_L5 l0_3 x38_2) x48_3).f2) ((rd_T60 (rd_L5 l0_3 x38_2) x48_3).f3)) else (none)) else (none)) = some r := by first | (rw [hji39] at H; exact H) | (simp only [hji39] at H ⊢; exact H)
                     (try rw [hji39] at A27); have hji39w : (IntKind.i64.wrap (x48_3 - 1)) = ji39 := (i64_w _).trans hji39
                     by_cases c40 : 0 ≤ (ji39)
                     ·rw [if_pos c40] at H
                      have c40b0 : decide (0 ≤ (ji39)) = true := decide_eq_true c40; clear c40
                      by_cases c41 : (ji39) < ((rd_L5 l0_3 x38_2).length : Int)
                      ·rw [if_pos c41] at H
                       have c41b0 : decide ((ji39) < ((rd_L5 l0_3 x38_2).length : Int)) = true := decide_eq_true c41; clear c41; have H' := Aside0.mk H; clear H
                       try go_wp2
                       have n0_ : Aside0 (Kd.R (Kd.int .i64) 3 ((((w24.setCell ⟨gb157, 0, none⟩ (.int .i64 ((rd_T60 (rd_L5 l0_3 x38_2) x48_3).f0))).setCell ⟨gb157, 1, none⟩ (.string ((rd_T60 (rd_L5 l0_3 x38_2) x48_3).f1))).setCell ⟨gb157, 2, none⟩ (.string ((rd_T60 (rd_L5 l0_3 x38_2) x48_3).f2))).setCell ⟨gb157, 3, none⟩ (.int .i64 ((rd_T60 (rd_L5 l0_3 x38_2) x48_3).f3))) w.heap.size (fun _ => True) u3 x3_3) := ⟨by (with_reducible repeat (first | apply Kd.R_alloc | apply Kd.R_drewN | apply Kd.R_drew)); exact Kd.R_mono (Kd.R_far (p := ⟨gb157, 3, none⟩) (Kd.R_far (p := ⟨gb157, 2, none⟩) (Kd.R_far (p := ⟨gb157, 1, none⟩) (Kd.R_far (p := ⟨gb157, 0, none⟩) (Kd.R_types HO_3.out BK157.out (by decide)) (fun _ hk => hk.2) (.int .i64 ((rd_T60 (rd_L5 l0_3 x38_2) x48_3).f0))) (fun _ hk => hk.2) (.string ((rd_T60 (rd_L5 l0_3 x38_2) x48_3).f1))) (fun _ hk => hk.2) (.string ((rd_T60 (rd_L5 l0_3 x38_2) x48_3).f2))) (fun _ hk => hk.2) (.int .i64 ((rd_T60 (rd_L5 l0_3 x38_2) x48_3).f3))) (fun _ hk => trivial)⟩; have n1_ : Aside0 (((((w24.setCell ⟨gb157, 0, none⟩ (.int .i64 ((rd_T60 (rd_L5 l0_3 x38_2) x48_3).f0))).setCell ⟨gb157, 1, none⟩ (.string ((rd_T60 (rd_L5 l0_3 x38_2) x48_3).f1))).setCell ⟨gb157, 2, none⟩ (.string ((rd_T60 (rd_L5 l0_3 x38_2) x48_3).f2))).setCell ⟨gb157, 3, none⟩ (.int .i64 ((rd_T60 (rd_L5 l0_3 x38_2) x48_3).f3))).heap[gb151]? = some (.cells #[.int .i64 a0_0, .int .i64 a0_1, .int .i64 a0_2, .slice (some ad155) l0_3.length c0_3] 29 (0, 0))) := ⟨by (with_reducible repeat (first | refine blk_drewN ?_ _ | refine blk_drew ?_ | refine blk_alloc ?_ _)); refine blk_far ?_ NB151_157.out _; (with_reducible repeat (first | refine blk_drewN ?_ _ | refine blk_drew ?_ | refine blk_alloc ?_ _)); refine blk_far ?_ NB151_157.out _; (with_reducible repeat (first | refine blk_drewN ?_ _ | refine blk_drew ?_ | refine blk_alloc ?_ _)); refine blk_far ?_ NB151_157.out _; (with_reducible repeat (first | refine blk_drewN ?_ _ | refine blk_drew ?_ | refine blk_alloc ?_ _)); refine blk_far ?_ NB151_157.out _; (with_reducible repeat (first | refine blk_drewN ?_ _ | refine blk_drew ?_ | refine blk_alloc ?_ _)); exact BK151.out⟩; have n2_ : Aside0 (((((w24.setCell ⟨gb157, 0, none⟩ (.int .i64 ((rd_T60 (rd_L5 l0_3 x38_2) x48_3).f0))).setCell ⟨gb157, 1, none⟩ (.string ((rd_T60 (rd_L5 l0_3 x38_2) x48_3).f1))).setCell ⟨gb157, 2, none⟩ (.string ((rd_T60 (rd_L5 l0_3 x38_2) x48_3).f2))).setCell ⟨gb157, 3, none⟩ (.int .i64 ((rd_T60 (rd_L5 l0_3 x38_2) x48_3).f3))).heap[gb157]? = some (.cells #[.int .i64 ((rd_T60 (rd_L5 l0_3 x38_2) x48_3).f0), .string ((rd_T60 (rd_L5 l0_3 x38_2) x48_3).f1), .string ((rd_T60 (rd_L5 l0_3 x38_2) x48_3).f2), .int .i64 ((rd_T60 (rd_L5 l0_3 x38_2) x48_3).f3)] 60 (0, 0))) := ⟨by (with_reducible repeat (first | refine blk_drewN ?_ _ | refine blk_drew ?_ | refine blk_alloc ?_ _)); refine blk_put (cs := #[.int .i64 ((rd_T60 (rd_L5 l0_3 x38_2) x48_3).f0), .string ((rd_T60 (rd_L5 l0_3 x38_2) x48_3).f1), .string ((rd_T60 (rd_L5 l0_3 x38_2) x48_3).f2), .int .i64 0]) ?_ 3 _ rfl; (with_reducible repeat (first | refine blk_drewN ?_ _ | refine blk_drew ?_ | refine blk_alloc ?_ _)); refine blk_put (cs := #[.int .i64 ((rd_T60 (rd_L5 l0_3 x38_2) x48_3).f0), .string ((rd_T60 (rd_L5 l0_3 x38_2) x48_3).f1), .string (⟨#[]⟩ : ByteArray), .int .i64 0]) ?_ 2 _ rfl; (with_reducible repeat (first | refine blk_drewN ?_ _ | refine blk_drew ?_ | refine blk_alloc ?_ _)); refine blk_put (cs := #[.int .i64 ((rd_T60 (rd_L5 l0_3 x38_2) x48_3).f0), .string (⟨#[]⟩ : ByteArray), .string (⟨#[]⟩ : ByteArray), .int .i64 0]) ?_ 1 _ rfl; (with_reducible repeat (first | refine blk_drewN ?_ _ | refine blk_drew ?_ | refine blk_alloc ?_ _)); refine blk_put (cs := #[.int .i64 0, .string (⟨#[]⟩ : ByteArray), .string (⟨#[]⟩ : ByteArray), .int .i64 0]) ?_ 0 _ rfl; (with_reducible repeat (first | refine blk_drewN ?_ _ | refine blk_drew ?_ | refine blk_alloc ?_ _)); exact BK157.out⟩
                       have n3_ : Aside0 (Below w.heap.size w ((((w24.setCell ⟨gb157, 0, none⟩ (.int .i64 ((rd_T60 (rd_L5 l0_3 x38_2) x48_3).f0))).setCell ⟨gb157, 1, none⟩ (.string ((rd_T60 (rd_L5 l0_3 x38_2) x48_3).f1))).setCell ⟨gb157, 2, none⟩ (.string ((rd_T60 (rd_L5 l0_3 x38_2) x48_3).f2))).setCell ⟨gb157, 3, none⟩ (.int .i64 ((rd_T60 (rd_L5 l0_3 x38_2) x48_3).f3)))) := ⟨by repeat (first | (with_reducible first | exact HB.out | apply below_alloc | apply pw_below_drewN | apply below_drew1 | refine below_set ?_ GE151.out | refine below_set ?_ GE157.out) | exact HB.out)⟩; (try clear HO_3); (try clear BK151); (try clear BK157); (try clear HB); generalize ((((w24.setCell ⟨gb157, 0, none⟩ (.int .i64 ((rd_T60 (rd_L5 l0_3 x38_2) x48_3).f0))).setCell ⟨gb157, 1, none⟩ (.string ((rd_T60 (rd_L5 l0_3 x38_2) x48_3).f1))).setCell ⟨gb157, 2, none⟩ (.string ((rd_T60 (rd_L5 l0_3 x38_2) x48_3).f2))).setCell ⟨gb157, 3, none⟩ (.int .i64 ((rd_T60 (rd_L5 l0_3 x38_2) x48_3).f3))) = w42 at n0_ n1_ n2_ n3_ ⊢; have HO_3 := n0_; have BK151 := n1_; have BK157 := n2_; have HB := n3_; clear n0_ n1_ n2_ n3_; have n0_ := Aside0.mk (Kd.R_drew HO_3.out); have n1_ := Aside0.mk (blk_drew BK151.out); have n2_ := Aside0.mk (blk_drew BK157.out); have n3_ := Aside0.mk (below_drew1 HB.out); clear HO_3; clear BK151; clear BK157; clear HB; have HO_3 := n0_; have BK151 := n1_; have BK157 := n2_; have HB := n3_; clear n0_ n1_ n2_ n3_; have p159 : 0 ≤ ((ji39) : Int) := of_decide_eq_true (by first | (with_reducible assumption) | assumption); have q159 : (ji39) < ((rd_L5 l0_3 x38_2).length : Int) := of_decide_eq_true (by first | (with_reducible assumption) | assumption); obtain ⟨ad159, e159, hx159_0, hx159_1, hx159_2, hx159_3⟩ := at_T60 HR155_0.out (ji39) p159 q159; have hw159_3 := hx159_3; have hw159_2 := hx159_2; have hw159_1 := hx159_1; have hw159_0 := hx159_0; obtain rfl : ad156 = ad159 := (by injection e159)
                       try (replace hx159_0 := (HB.out.cell (World.block_lt_of_cell? w _ hx159_0)).trans hx159_0)
                       try (replace hx159_1 := (HB.out.cell (World.block_lt_of_cell? w _ hx159_1)).trans hx159_1)
                       try (replace hx159_2 := (HB.out.cell (World.block_lt_of_cell? w _ hx159_2)).trans hx159_2)
                       try (replace hx159_3 := (HB.out.cell (World.block_lt_of_cell? w _ hx159_3)).trans hx159_3)
                       replace p159 := eq_true p159; replace q159 := eq_true q159
                       refine start_ (n := 36) (S := fun w' => w'.cell? ⟨gb157, 0, none⟩ = some (.int .i64 ((rd_T60 (rd_L5 l0_3 x38_2) x48_3).f0)) ∧ w'.cell? ⟨gb157, 1, none⟩ = some (.string ((rd_T60 (rd_L5 l0_3 x38_2) x48_3).f1)) ∧ w'.cell? ⟨gb157, 2, none⟩ = some (.string ((rd_T60 (rd_L5 l0_3 x38_2) x48_3).f2)) ∧ w'.cell? ⟨gb157, 3, none⟩ = some (.int .i64 ((rd_T60 (rd_L5 l0_3 x38_2) x48_3).f3)) ∧ w'.cell? ⟨gb151, 0, none⟩ = some (.int .i64 a0_0) ∧ w'.cell? ⟨gb151, 1, none⟩ = some (.int .i64 a0_1) ∧ w'.cell? ⟨gb151, 2, none⟩ = some (.int .i64 a0_2) ∧ w'.cell? ⟨gb151, 3, none⟩ = some (.slice (some ad155) l0_3.length c0_3) ∧ w'.cell? (ad156.add (((ji39)).toNat * 4)) = some (.int .i64 ((rd_T60 (rd_L5 l0_3 x38_2) (ji39)).f0)) ∧ w'.cell? ⟨(ad156.add (((ji39)).toNat * 4)).block, (ad156.add (((ji39)).toNat * 4)).off + 1, none⟩ = some (.string ((rd_T60 (rd_L5 l0_3 x38_2) (ji39)).f1)) ∧ w'.cell? ⟨(ad156.add (((ji39)).toNat * 4)).block, (ad156.add (((ji39)).toNat * 4)).off + 2, none⟩ = some (.string ((rd_T60 (rd_L5 l0_3 x38_2) (ji39)).f2)) ∧ w'.cell? ⟨(ad156.add (((ji39)).toNat * 4)).block, (ad156.add (((ji39)).toNat * 4)).off + 3, none⟩ = some (.int .i64 ((rd_T60 (rd_L5 l0_3 x38_2) (ji39)).f3))) (ds := []) bq4_0 (by kernel_rfl) rfl rfl ⟨(blk_cell BK157.out 0).trans rfl, (blk_cell BK157.out 1).trans rfl, (blk_cell BK157.out 2).trans rfl, (blk_cell BK157.out 3).trans rfl, (blk_cell BK151.out 0).trans rfl, (blk_cell BK151.out 1).trans rfl, (blk_cell BK151.out 2).trans rfl, (blk_cell BK151.out 3).trans rfl, ((HB.out.cell (World.block_lt_of_cell? w _ hw159_0)).trans hw159_0), ((HB.out.cell (World.block_lt_of_cell? w _ hw159_1)).trans hw159_1), ((HB.out.cell (World.block_lt_of_cell? w _ hw159_2)).trans hw159_2), ((HB.out.cell (World.block_lt_of_cell? w _ hw159_3)).trans hw159_3)⟩ (fun hHeld => ?_); refine with_tabW spec_GoodVersion.tab12 spec_GoodVersion.bits12 (fun HT_ HW_ => ?_)
                       generalize w42.drew = w43 at HO_3 BK151 BK157 HB hx159_0 hx159_1 hx159_2 hx159_3 hHeld ⊢; refine take_ (i := 0) (N := some 53) (v := ?_) (a' := ?_) bq4_1 rfl rfl (take_ofW HT_.out HW_.out (by kernel_rfl)) (fun _ _ _ h => h) (Or.inl ⟨by rfl, ?_⟩) hHeld ?_ ?_; rotate_left; · rintro w' ⟨s0, s1, s2, s3, s4, s5, s6, s7, s8, s9, s10, s11⟩; go_simp; with_reducible rfl
                       rotate_left; · simp only [Act.put, sq4_a, sq4_b, sq4_c, i64_w, i32_w]; rfl
                       refine one_ (i := 1) (N := some 54) bq4_2 rfl rfl (one_of HT_.out (by kernel_rfl)) (by decide) (fun K hK => ?_); refine goes_ Try.func29 (by kernel_rfl) rfl #[.agg #[.int .i64 ((rd_T60 (rd_L5 l0_3 x38_2) x48_3).f0), .string ((rd_T60 (rd_L5 l0_3 x38_2) x48_3).f1), .string ((rd_T60 (rd_L5 l0_3 x38_2) x48_3).f2), .int .i64 ((rd_T60 (rd_L5 l0_3 x38_2) x48_3).f3)]] (by rfl) rfl rfl (by (try simp only [List.map_toArray, List.map_cons, List.map_nil]); first | done | rfl | (simp only [List.length_drop, List.length_take]; rfl)) ?_; (with_reducible refine (spec_l9Meta.calls ((rd_T60 (rd_L5 l0_3 x38_2) x48_3).f0) ((rd_T60 (rd_L5 l0_3 x38_2) x48_3).f1) ((rd_T60 (rd_L5 l0_3 x38_2) x48_3).f2) ((rd_T60 (rd_L5 l0_3 x38_2) x48_3).f3) true _ A27.out).mono ?_); rintro e w44 ⟨rfl, hb⟩; refine ⟨_, rfl, ?_⟩; have n0_ := Aside0.mk (Kd.R_below (by (with_reducible repeat (first | apply Kd.R_alloc | apply Kd.R_drewN | apply Kd.R_drew)); exact HO_3.out) hb); have n1_ := Aside0.mk (blk_below (g := gb151) (o := .cells #[.int .i64 a0_0, .int .i64 a0_1, .int .i64 a0_2, .slice (some ad155) l0_3.length c0_3] 29 (0, 0)) (by (with_reducible repeat (first | refine blk_drewN ?_ _ | refine blk_drew ?_ | refine blk_alloc ?_ _)); exact BK151.out) hb); have n2_ := Aside0.mk (blk_below (g := gb157) (o := .cells #[.int .i64 ((rd_T60 (rd_L5 l0_3 x38_2) x48_3).f0), .string ((rd_T60 (rd_L5 l0_3 x38_2) x48_3).f1), .string ((rd_T60 (rd_L5 l0_3 x38_2) x48_3).f2), .int .i64 ((rd_T60 (rd_L5 l0_3 x38_2) x48_3).f3)] 60 (0, 0)) (by (with_reducible repeat (first | refine blk_drewN ?_ _ | refine blk_drew ?_ | refine blk_alloc ?_ _)); exact BK157.out) hb); have n3_ := Aside0.mk (below_step (by repeat (first | (with_reducible first | exact HB.out | apply below_alloc | apply pw_below_drewN | apply below_drew1 | refine below_set ?_ GE151.out | refine below_set ?_ GE157.out) | exact HB.out)) hb); clear HO_3; clear BK151; clear BK157; clear HB; have HO_3 := n0_; have BK151 := n1_; have BK157 := n2_; have HB := n3_; clear n0_ n1_ n2_ n3_; (try clear hb); (try clear hb2); (try clear hk); (try clear hi); refine hK.out _ _ ⟨(blk_cell BK157.out 0).trans rfl, (blk_cell BK157.out 1).trans rfl, (blk_cell BK157.out 2).trans rfl, (blk_cell BK157.out 3).trans rfl, (blk_cell BK151.out 0).trans rfl, (blk_cell BK151.out 1).trans rfl, (blk_cell BK151.out 2).trans rfl, (blk_cell BK151.out 3).trans rfl, ((HB.out.cell (World.block_lt_of_cell? w _ hw159_0)).trans hw159_0), ((HB.out.cell (World.block_lt_of_cell? w _ hw159_1)).trans hw159_1), ((HB.out.cell (World.block_lt_of_cell? w _ hw159_2)).trans hw159_2), ((HB.out.cell (World.block_lt_of_cell? w _ hw159_3)).trans hw159_3)⟩ (fun hHeld => ?_); clear hK K; refine norm_ (a' := ?_) ?_ ?_; rotate_left
                       ·show Act.put _ (some 54) _ = _
                        simp only [Act.put, sq4_a, sq4_b, sq4_c, i64_w, i32_w]; rfl
                       refine pure_ (i := 2) (N := some 55) (v := ?_) (a' := ?_) bq4_3 rfl rfl (any_of HT_.out (by kernel_rfl)) (fun _ _ _ h => h) (Or.inl ⟨by rfl, ?_⟩) ?_ ?_; rotate_left; · intro w'; go_simp; with_reducible rfl
                       rotate_left; · simp only [Act.put, sq4_a, sq4_b, sq4_c, i64_w, i32_w]; rfl
                       refine pure_ (i := 3) (N := some 56) (v := ?_) (a' := ?_) bq4_4 rfl rfl (any_of HT_.out (by kernel_rfl)) (fun _ _ _ h => h) (Or.inl ⟨by rfl, ?_⟩) ?_ ?_; rotate_left; · intro w'; go_simp; with_reducible rfl
                       rotate_left; · simp only [Act.put, sq4_a, sq4_b, sq4_c, i64_w, i32_w]; rfl
                       refine pure_ (i := 4) (N := some 57) (v := ?_) (a' := ?_) bq4_5 rfl rfl (any_of HT_.out (by kernel_rfl)) (fun _ _ _ h => h) (Or.inl ⟨by rfl, ?_⟩) ?_ ?_; rotate_left; · intro w'; go_simp; with_reducible rfl
                       rotate_left; · simp only [Act.put, sq4_a, sq4_b, sq4_c, i64_w, i32_w]; rfl
                       refine pure_ (i := 6) (N := some 59) (v := ?_) (a' := ?_) bq4_6 rfl rfl (any_of HT_.out (by kernel_rfl)) (fun _ _ _ h => h) (Or.inl ⟨by rfl, ?_⟩) ?_ ?_; rotate_left; · intro w'; go_simp; with_reducible rfl
                       rotate_left; · simp only [Act.put, sq4_a, sq4_b, sq4_c, i64_w, i32_w]; rfl
                       refine take_ (i := 5) (N := some 58) (v := ?_) (a' := ?_) bq4_7 rfl rfl (take_ofW HT_.out HW_.out (by kernel_rfl)) (fun _ _ _ h => h) (Or.inl ⟨by rfl, ?_⟩) hHeld ?_ ?_; rotate_left; · rintro w' ⟨s0, s1, s2, s3, s4, s5, s6, s7, s8, s9, s10, s11⟩; go_simp; with_reducible rfl
                       rotate_left; · simp only [Act.put, sq4_a, sq4_b, sq4_c, i64_w, i32_w]; rfl
                       refine take_ (i := 7) (N := some 60) (v := ?_) (a' := ?_) bq4_8 rfl rfl (take_ofW HT_.out HW_.out (by kernel_rfl)) (fun _ _ _ h => h) (Or.inl ⟨by rfl, ?_⟩) hHeld ?_ ?_; rotate_left; · rintro w' ⟨s0, s1, s2, s3, s4, s5, s6, s7, s8, s9, s10, s11⟩; go_simp; with_reducible rfl
                       rotate_left; · simp only [Act.put, sq4_a, sq4_b, sq4_c, i64_w, i32_w]; rfl
                       refine pure_ (i := 8) (N := some 61) (v := ?_) (a' := ?_) bq4_9 rfl rfl (any_of HT_.out (by kernel_rfl)) (fun _ _ _ h => h) (Or.inl ⟨by rfl, ?_⟩) ?_ ?_; rotate_left; · intro w'; go_simp; with_reducible rfl
                       rotate_left; · simp only [Act.put, sq4_a, sq4_b, sq4_c, i64_w, i32_w]; rfl
                       refine pure_ (i := 9) (N := some 62) (v := ?_) (a' := ?_) bq4_10 rfl rfl (any_of HT_.out (by kernel_rfl)) (fun _ _ _ h => h) (Or.inl ⟨by rfl, ?_⟩) ?_ ?_; rotate_left; · intro w'; go_simp; with_reducible rfl
                       rotate_left; · simp only [Act.put, sq4_a, sq4_b, sq4_c, i64_w, i32_w]; rfl
                       refine pure_ (i := 10) (N := some 63) (v := ?_) (a' := ?_) bq4_11 rfl rfl (any_of HT_.out (by kernel_rfl)) (fun _ _ _ h => h) (Or.inl ⟨by rfl, ?_⟩) ?_ ?_; rotate_left; · intro w'; go_simp; with_reducible rfl
                       rotate_left; · simp only [Act.put, sq4_a, sq4_b, sq4_c, i64_w, i32_w]; rfl
                       refine pure_ (i := 11) (N := some 64) (v := ?_) (a' := ?_) bq4_12 rfl rfl (any_of HT_.out (by kernel_rfl)) (fun _ _ _ h => h) (Or.inl ⟨by rfl, ?_⟩) ?_ ?_; rotate_left; · intro w'; go_simp; with_reducible rfl
                       rotate_left; · simp only [Act.put, sq4_a, sq4_b, sq4_c, i64_w, i32_w]; rfl
                       refine pure_ (i := 13) (N := some 66) (v := ?_) (a' := ?_) bq4_37 rfl rfl (any_of HT_.out (by kernel_rfl)) (fun _ _ _ h => h) (Or.inl ⟨by rfl, ?_⟩) ?_ ?_; rotate_left; · intro w'; go_simp; with_reducible rfl
                       rotate_left; · simp only [Act.put, sq4_a, sq4_b, sq4_c, i64_w, i32_w]; rfl
                       refine take_ (i := 12) (N := some 65) (v := ?_) (a' := ?_) bq4_14 rfl rfl (take_ofW HT_.out HW_.out (by kernel_rfl)) (fun _ _ _ h => h) (Or.inl ⟨by rfl, ?_⟩) hHeld ?_ ?_; rotate_left; · rintro w' ⟨s0, s1, s2, s3, s4, s5, s6, s7, s8, s9, s10, s11⟩; go_simp; with_reducible rfl
                       rotate_left; · simp only [Act.put, sq4_a, sq4_b, sq4_c, i64_w, i32_w]; rfl
                       refine take_ (i := 14) (N := some 67) (v := ?_) (a' := ?_) bq4_15 rfl rfl (take_ofW HT_.out HW_.out (by kernel_rfl)) (fun _ _ _ h => h) (Or.inl ⟨by rfl, ?_⟩) hHeld ?_ ?_; rotate_left; · rintro w' ⟨s0, s1, s2, s3, s4, s5, s6, s7, s8, s9, s10, s11⟩; go_simp; with_reducible rfl
                       rotate_left; · simp only [Act.put, sq4_a, sq4_b, sq4_c, i64_w, i32_w]; rfl
                       refine pure_ (i := 15) (N := some 68) (v := ?_) (a' := ?_) bq4_16 rfl rfl (any_of HT_.out (by kernel_rfl)) (fun _ _ _ h => h) (Or.inl ⟨by rfl, ?_⟩) ?_ ?_; rotate_left; · intro w'; go_simp; with_reducible rfl
                       rotate_left; · simp only [Act.put, sq4_a, sq4_b, sq4_c, i64_w, i32_w]; rfl
                       refine pure_ (i := 16) (N := some 69) (v := ?_) (a' := ?_) bq4_17 rfl rfl (any_of HT_.out (by kernel_rfl)) (fun _ _ _ h => h) (Or.inl ⟨by rfl, ?_⟩) ?_ ?_; rotate_left; · intro w'; go_simp; with_reducible rfl
                       rotate_left; · simp only [Act.put, sq4_a, sq4_b, sq4_c, i64_w, i32_w]; rfl
                       refine pure_ (i := 17) (N := some 70) (v := ?_) (a' := ?_) bq4_18 rfl rfl (any_of HT_.out (by kernel_rfl)) (fun _ _ _ h => h) (Or.inl ⟨by rfl, ?_⟩) ?_ ?_; rotate_left; · intro w'; go_simp; with_reducible rfl
                       rotate_left; · simp only [Act.put, sq4_a, sq4_b, sq4_c, i64_w, i32_w]; rfl
                       refine pure_ (i := 18) (N := some 71) (v := ?_) (a' := ?_) bq4_19 rfl rfl (any_of HT_.out (by kernel_rfl)) (fun _ _ _ h => h) (Or.inl ⟨by rfl, ?_⟩) ?_ ?_; rotate_left; · intro w'; go_simp; with_reducible rfl
                       rotate_left; · simp only [Act.put, sq4_a, sq4_b, sq4_c, i64_w, i32_w]; rfl
                       refine pure_ (i := 19) (N := some 72) (v := ?_) (a' := ?_) bq4_20 rfl rfl (any_of HT_.out (by kernel_rfl)) (fun _ _ _ h => h) (Or.inl ⟨by rfl, ?_⟩) ?_ ?_; rotate_left; · intro w'; go_simp; with_reducible rfl
                       rotate_left; · simp only [Act.put, sq4_a, sq4_b, sq4_c, i64_w, i32_w]; rfl
                       refine pure_ (i := 20) (N := some 73) (v := ?_) (a' := ?_) bq4_21 rfl rfl (any_of HT_.out (by kernel_rfl)) (fun _ _ _ h => h) (Or.inl ⟨by rfl, ?_⟩) ?_ ?_; rotate_left; · intro w'; go_simp; with_reducible rfl
                       rotate_left; · simp only [Act.put, sq4_a, sq4_b, sq4_c, i64_w, i32_w]; rfl
                       refine pure_ (i := 21) (N := some 74) (v := ?_) (a' := ?_) bq4_22 rfl rfl (any_of HT_.out (by kernel_rfl)) (fun _ _ _ h => h) (Or.inl ⟨by rfl, ?_⟩) ?_ ?_; rotate_left; · intro w'; go_simp; with_reducible rfl
                       rotate_left; · simp only [Act.put, sq4_a, sq4_b, sq4_c, i64_w, i32_w]; rfl
                       refine pure_ (i := 22) (N := some 75) (v := ?_) (a' := ?_) bq4_23 rfl rfl (any_of HT_.out (by kernel_rfl)) (fun _ _ _ h => h) (Or.inl ⟨by rfl, ?_⟩) ?_ ?_; rotate_left; · intro w'; go_simp; with_reducible rfl
                       rotate_left; · simp only [Act.put, sq4_a, sq4_b, sq4_c, i64_w, i32_w]; rfl
                       refine pure_ (i := 23) (N := some 76) (v := ?_) (a' := ?_) bq4_24 rfl rfl (any_of HT_.out (by kernel_rfl)) (fun _ _ _ h => h) (Or.inl ⟨by rfl, ?_⟩) ?_ ?_; rotate_left; · intro w'; go_simp; with_reducible rfl
                       rotate_left; · simp only [Act.put, sq4_a, sq4_b, sq4_c, i64_w, i32_w]; rfl
                       refine pure_ (i := 24) (N := some 77) (v := ?_) (a' := ?_) bq4_25 rfl rfl (any_of HT_.out (by kernel_rfl)) (fun _ _ _ h => h) (Or.inl ⟨by rfl, ?_⟩) ?_ ?_; rotate_left; · intro w'; go_simp; with_reducible rfl
                       rotate_left; · simp only [Act.put, sq4_a, sq4_b, sq4_c, i64_w, i32_w]; rfl
                       refine pure_ (i := 25) (N := some 78) (v := ?_) (a' := ?_) bq4_26 rfl rfl (any_of HT_.out (by kernel_rfl)) (fun _ _ _ h => h) (Or.inl ⟨by rfl, ?_⟩) ?_ ?_; rotate_left; · intro w'; go_simp; with_reducible rfl
                       rotate_left; · simp only [Act.put, sq4_a, sq4_b, sq4_c, i64_w, i32_w]; rfl
                       refine pure_ (i := 26) (N := some 79) (v := ?_) (a' := ?_) bq4_27 rfl rfl (any_of HT_.out (by kernel_rfl)) (fun _ _ _ h => h) (Or.inl ⟨by rfl, ?_⟩) ?_ ?_; rotate_left; · intro w'; go_simp; with_reducible rfl
                       rotate_left; · simp only [Act.put, sq4_a, sq4_b, sq4_c, i64_w, i32_w]; rfl
                       refine pure_ (i := 27) (N := some 80) (v := ?_) (a' := ?_) bq4_28 rfl rfl (any_of HT_.out (by kernel_rfl)) (fun _ _ _ h => h) (Or.inl ⟨by rfl, ?_⟩) ?_ ?_; rotate_left; · intro w'; go_simp; with_reducible rfl
                       rotate_left; · simp only [Act.put, sq4_a, sq4_b, sq4_c, i64_w, i32_w]; rfl
                       refine pure_ (i := 28) (N := some 81) (v := ?_) (a' := ?_) bq4_29 rfl rfl (any_of HT_.out (by kernel_rfl)) (fun _ _ _ h => h) (Or.inl ⟨by rfl, ?_⟩) ?_ ?_; rotate_left; · intro w'; go_simp; with_reducible rfl
                       rotate_left; · simp only [Act.put, sq4_a, sq4_b, sq4_c, i64_w, i32_w]; rfl
                       refine pure_ (i := 29) (N := some 82) (v := ?_) (a' := ?_) bq4_30 rfl rfl (any_of HT_.out (by kernel_rfl)) (fun _ _ _ h => h) (Or.inl ⟨by rfl, ?_⟩) ?_ ?_; rotate_left; · intro w'; go_simp; with_reducible rfl
                       rotate_left; · simp only [Act.put, sq4_a, sq4_b, sq4_c, i64_w, i32_w]; rfl
                       refine pure_ (i := 31) (N := some 84) (v := ?_) (a' := ?_) bq4_38 rfl rfl (any_of HT_.out (by kernel_rfl)) (fun _ _ _ h => h) (Or.inl ⟨by rfl, ?_⟩) ?_ ?_; rotate_left; · intro w'; go_simp; with_reducible rfl
                       rotate_left; · simp only [Act.put, sq4_a, sq4_b, sq4_c, i64_w, i32_w]; rfl
                       refine take_ (i := 30) (N := some 83) (v := ?_) (a' := ?_) bq4_32 rfl rfl (take_ofW HT_.out HW_.out (by kernel_rfl)) (fun _ _ _ h => h) (Or.inl ⟨by rfl, ?_⟩) hHeld ?_ ?_; rotate_left; · rintro w' ⟨s0, s1, s2, s3, s4, s5, s6, s7, s8, s9, s10, s11⟩; go_simp; with_reducible rfl
                       rotate_left; · simp only [Act.put, sq4_a, sq4_b, sq4_c, i64_w, i32_w]; rfl
                       refine take_ (i := 32) (N := some 85) (v := ?_) (a' := ?_) bq4_33 rfl rfl (take_ofW HT_.out HW_.out (by kernel_rfl)) (fun _ _ _ h => h) (Or.inl ⟨by rfl, ?_⟩) hHeld ?_ ?_; rotate_left; · rintro w' ⟨s0, s1, s2, s3, s4, s5, s6, s7, s8, s9, s10, s11⟩; go_simp; with_reducible rfl
                       rotate_left; · simp only [Act.put, sq4_a, sq4_b, sq4_c, i64_w, i32_w]; rfl
                       refine pure_ (i := 33) (N := some 86) (v := ?_) (a' := ?_) bq4_34 rfl rfl (any_of HT_.out (by kernel_rfl)) (fun _ _ _ h => h) (Or.inl ⟨by rfl, ?_⟩) ?_ ?_; rotate_left; · intro w'; go_simp; with_reducible rfl
                       rotate_left; · simp only [Act.put, sq4_a, sq4_b, sq4_c, i64_w, i32_w]; rfl
                       refine pure_ (i := 34) (N := some 87) (v := ?_) (a' := ?_) bq4_35 rfl rfl (any_of HT_.out (by kernel_rfl)) (fun _ _ _ h => h) (Or.inl ⟨by rfl, ?_⟩) ?_ ?_; rotate_left; · intro w'; go_simp; with_reducible rfl
                       rotate_left; · simp only [Act.put, sq4_a, sq4_b, sq4_c, i64_w, i32_w]; rfl
                       refine pure_ (i := 35) (N := some 88) (v := ?_) (a' := ?_) bq4_36 rfl rfl (any_of HT_.out (by kernel_rfl)) (fun _ _ _ h => h) (Or.inl ⟨by rfl, ?_⟩) ?_ ?_; rotate_left; · intro w'; go_simp; with_reducible rfl
                       rotate_left; · simp only [Act.put, sq4_a, sq4_b, sq4_c, i64_w, i32_w]; rfl
                       refine done_ (done_of HT_.out (by kernel_rfl)) ?_
                       try go_wp2
                       go_meet
                       case rel => exact ⟨_, (!(Op.bytesLess (((rd_T60 (rd_L5 l0_3 x38_2) (ji39)).f2).toList) (((rd_T60 (rd_L5 l0_3 x38_2) x48_3).f1).toList))), (by first | rfl | (simp; done) | (first | exact congrArg Value.bool (by assumption) | exact congrArg Value.bool (Eq.symm (by assumption)) | (simp only [← hji39] <;> (first | rfl | (simp; done)))) | (simp [*]; done)), H', ⟨by have := HJ1.out; have := HK2.out; have := HK3.out; first | omega | exact Nat.le_refl _⟩, ⟨by (with_reducible repeat (first | apply Kd.R_alloc | apply Kd.R_drewN | apply Kd.R_drew)); exact HO_3.out⟩, ⟨by (with_reducible repeat (first | refine blk_drewN ?_ _ | refine blk_drew ?_ | refine blk_alloc ?_ _)); exact BK151.out⟩, ⟨by (with_reducible repeat (first | refine blk_drewN ?_ _ | refine blk_drew ?_ | refine blk_alloc ?_ _)); exact BK157.out⟩, ⟨by repeat (first | (with_reducible first | exact HB.out | apply below_alloc | apply pw_below_drewN | apply below_drew1 | refine below_set ?_ GE151.out | refine below_set ?_ GE157.out) | exact HB.out)⟩⟩
                      ·rw [if_neg c41] at H; exact absurd H (by simp)
                     ·rw [if_neg c40] at H; exact absurd H (by simp)
                    ·rw [if_neg c38] at H
                     have c38b0 : decide (0 < x48_3) = false := decide_eq_false c38; clear c38; have H' := Aside0.mk H; clear H
                     try go_wp2
                     have n0_ : Aside0 (Kd.R (Kd.int .i64) 3 ((((w24.setCell ⟨gb157, 0, none⟩ (.int .i64 ((rd_T60 (rd_L5 l0_3 x38_2) x48_3).f0))).setCell ⟨gb157, 1, none⟩ (.string ((rd_T60 (rd_L5 l0_3 x38_2) x48_3).f1))).setCell ⟨gb157, 2, none⟩ (.string ((rd_T60 (rd_L5 l0_3 x38_2) x48_3).f2))).setCell ⟨gb157, 3, none⟩ (.int .i64 ((rd_T60 (rd_L5 l0_3 x38_2) x48_3).f3))) w.heap.size (fun _ => True) u3 x3_3) := ⟨by (with_reducible repeat (first | apply Kd.R_alloc | apply Kd.R_drewN | apply Kd.R_drew)); exact Kd.R_mono (Kd.R_far (p := ⟨gb157, 3, none⟩) (Kd.R_far (p := ⟨gb157, 2, none⟩) (Kd.R_far (p := ⟨gb157, 1, none⟩) (Kd.R_far (p := ⟨gb157, 0, none⟩) (Kd.R_types HO_3.out BK157.out (by decide)) (fun _ hk => hk.2) (.int .i64 ((rd_T60 (rd_L5 l0_3 x38_2) x48_3).f0))) (fun _ hk => hk.2) (.string ((rd_T60 (rd_L5 l0_3 x38_2) x48_3).f1))) (fun _ hk => hk.2) (.string ((rd_T60 (rd_L5 l0_3 x38_2) x48_3).f2))) (fun _ hk => hk.2) (.int .i64 ((rd_T60 (rd_L5 l0_3 x38_2) x48_3).f3))) (fun _ hk => trivial)⟩; have n1_ : Aside0 (((((w24.setCell ⟨gb157, 0, none⟩ (.int .i64 ((rd_T60 (rd_L5 l0_3 x38_2) x48_3).f0))).setCell ⟨gb157, 1, none⟩ (.string ((rd_T60 (rd_L5 l0_3 x38_2) x48_3).f1))).setCell ⟨gb157, 2, none⟩ (.string ((rd_T60 (rd_L5 l0_3 x38_2) x48_3).f2))).setCell ⟨gb157, 3, none⟩ (.int .i64 ((rd_T60 (rd_L5 l0_3 x38_2) x48_3).f3))).heap[gb151]? = some (.cells #[.int .i64 a0_0, .int .i64 a0_1, .int .i64 a0_2, .slice (some ad155) l0_3.length c0_3] 29 (0, 0))) := ⟨by (with_reducible repeat (first | refine blk_drewN ?_ _ | refine blk_drew ?_ | refine blk_alloc ?_ _)); refine blk_far ?_ NB151_157.out _; (with_reducible repeat (first | refine blk_drewN ?_ _ | refine blk_drew ?_ | refine blk_alloc ?_ _)); refine blk_far ?_ NB151_157.out _; (with_reducible repeat (first | refine blk_drewN ?_ _ | refine blk_drew ?_ | refine blk_alloc ?_ _)); refine blk_far ?_ NB151_157.out _; (with_reducible repeat (first | refine blk_drewN ?_ _ | refine blk_drew ?_ | refine blk_alloc ?_ _)); refine blk_far ?_ NB151_157.out _; (with_reducible repeat (first | refine blk_drewN ?_ _ | refine blk_drew ?_ | refine blk_alloc ?_ _)); exact BK151.out⟩; have n2_ : Aside0 (((((w24.setCell ⟨gb157, 0, none⟩ (.int .i64 ((rd_T60 (rd_L5 l0_3 x38_2) x48_3).f0))).setCell ⟨gb157, 1, none⟩ (.string ((rd_T60 (rd_L5 l0_3 x38_2) x48_3).f1))).setCell ⟨gb157, 2, none⟩ (.string ((rd_T60 (rd_L5 l0_3 x38_2) x48_3).f2))).setCell ⟨gb157, 3, none⟩ (.int .i64 ((rd_T60 (rd_L5 l0_3 x38_2) x48_3).f3))).heap[gb157]? = some (.cells #[.int .i64 ((rd_T60 (rd_L5 l0_3 x38_2) x48_3).f0), .string ((rd_T60 (rd_L5 l0_3 x38_2) x48_3).f1), .string ((rd_T60 (rd_L5 l0_3 x38_2) x48_3).f2), .int .i64 ((rd_T60 (rd_L5 l0_3 x38_2) x48_3).f3)] 60 (0, 0))) := ⟨by (with_reducible repeat (first | refine blk_drewN ?_ _ | refine blk_drew ?_ | refine blk_alloc ?_ _)); refine blk_put (cs := #[.int .i64 ((rd_T60 (rd_L5 l0_3 x38_2) x48_3).f0), .string ((rd_T60 (rd_L5 l0_3 x38_2) x48_3).f1), .string ((rd_T60 (rd_L5 l0_3 x38_2) x48_3).f2), .int .i64 0]) ?_ 3 _ rfl; (with_reducible repeat (first | refine blk_drewN ?_ _ | refine blk_drew ?_ | refine blk_alloc ?_ _)); refine blk_put (cs := #[.int .i64 ((rd_T60 (rd_L5 l0_3 x38_2) x48_3).f0), .string ((rd_T60 (rd_L5 l0_3 x38_2) x48_3).f1), .string (⟨#[]⟩ : ByteArray), .int .i64 0]) ?_ 2 _ rfl; (with_reducible repeat (first | refine blk_drewN ?_ _ | refine blk_drew ?_ | refine blk_alloc ?_ _)); refine blk_put (cs := #[.int .i64 ((rd_T60 (rd_L5 l0_3 x38_2) x48_3).f0), .string (⟨#[]⟩ : ByteArray), .string (⟨#[]⟩ : ByteArray), .int .i64 0]) ?_ 1 _ rfl; (with_reducible repeat (first | refine blk_drewN ?_ _ | refine blk_drew ?_ | refine blk_alloc ?_ _)); refine blk_put (cs := #[.int .i64 0, .string (⟨#[]⟩ : ByteArray), .string (⟨#[]⟩ : ByteArray), .int .i64 0]) ?_ 0 _ rfl; (with_reducible repeat (first | refine blk_drewN ?_ _ | refine blk_drew ?_ | refine blk_alloc ?_ _)); exact BK157.out⟩
                     have n3_ : Aside0 (Below w.heap.size w ((((w24.setCell ⟨gb157, 0, none⟩ (.int .i64 ((rd_T60 (rd_L5 l0_3 x38_2) x48_3).f0))).setCell ⟨gb157, 1, none⟩ (.string ((rd_T60 (rd_L5 l0_3 x38_2) x48_3).f1))).setCell ⟨gb157, 2, none⟩ (.string ((rd_T60 (rd_L5 l0_3 x38_2) x48_3).f2))).setCell ⟨gb157, 3, none⟩ (.int .i64 ((rd_T60 (rd_L5 l0_3 x38_2) x48_3).f3)))) := ⟨by repeat (first | (with_reducible first | exact HB.out | apply below_alloc | apply pw_below_drewN | apply below_drew1 | refine below_set ?_ GE151.out | refine below_set ?_ GE157.out) | exact HB.out)⟩; (try clear HO_3); (try clear BK151); (try clear BK157); (try clear HB); generalize ((((w24.setCell ⟨gb157, 0, none⟩ (.int .i64 ((rd_T60 (rd_L5 l0_3 x38_2) x48_3).f0))).setCell ⟨gb157, 1, none⟩ (.string ((rd_T60 (rd_L5 l0_3 x38_2) x48_3).f1))).setCell ⟨gb157, 2, none⟩ (.string ((rd_T60 (rd_L5 l0_3 x38_2) x48_3).f2))).setCell ⟨gb157, 3, none⟩ (.int .i64 ((rd_T60 (rd_L5 l0_3 x38_2) x48_3).f3))) = w45 at n0_ n1_ n2_ n3_ ⊢; have HO_3 := n0_; have BK151 := n1_; have BK157 := n2_; have HB := n3_; clear n0_ n1_ n2_ n3_; have n0_ := Aside0.mk (Kd.R_drew HO_3.out); have n1_ := Aside0.mk (blk_drew BK151.out); have n2_ := Aside0.mk (blk_drew BK157.out); have n3_ := Aside0.mk (below_drew1 HB.out); clear HO_3; clear BK151; clear BK157; clear HB; have HO_3 := n0_; have BK151 := n1_; have BK157 := n2_; have HB := n3_; clear n0_ n1_ n2_ n3_
                     refine start_ (n := 36) (S := fun w' => w'.cell? ⟨gb157, 0, none⟩ = some (.int .i64 ((rd_T60 (rd_L5 l0_3 x38_2) x48_3).f0)) ∧ w'.cell? ⟨gb157, 1, none⟩ = some (.string ((rd_T60 (rd_L5 l0_3 x38_2) x48_3).f1)) ∧ w'.cell? ⟨gb157, 2, none⟩ = some (.string ((rd_T60 (rd_L5 l0_3 x38_2) x48_3).f2)) ∧ w'.cell? ⟨gb157, 3, none⟩ = some (.int .i64 ((rd_T60 (rd_L5 l0_3 x38_2) x48_3).f3)) ∧ w'.cell? ⟨gb151, 0, none⟩ = some (.int .i64 a0_0) ∧ w'.cell? ⟨gb151, 1, none⟩ = some (.int .i64 a0_1) ∧ w'.cell? ⟨gb151, 2, none⟩ = some (.int .i64 a0_2) ∧ w'.cell? ⟨gb151, 3, none⟩ = some (.slice (some ad155) l0_3.length c0_3)) (ds := []) bq4_0 (by kernel_rfl) rfl rfl ⟨(blk_cell BK157.out 0).trans rfl, (blk_cell BK157.out 1).trans rfl, (blk_cell BK157.out 2).trans rfl, (blk_cell BK157.out 3).trans rfl, (blk_cell BK151.out 0).trans rfl, (blk_cell BK151.out 1).trans rfl, (blk_cell BK151.out 2).trans rfl, (blk_cell BK151.out 3).trans rfl⟩ (fun hHeld => ?_); refine with_tabW spec_GoodVersion.tab12 spec_GoodVersion.bits12 (fun HT_ HW_ => ?_)
                     generalize w45.drew = w46 at HO_3 BK151 BK157 HB hHeld ⊢; refine take_ (i := 0) (N := some 53) (v := ?_) (a' := ?_) bq4_1 rfl rfl (take_ofW HT_.out HW_.out (by kernel_rfl)) (fun _ _ _ h => h) (Or.inl ⟨by rfl, ?_⟩) hHeld ?_ ?_; rotate_left; · rintro w' ⟨s0, s1, s2, s3, s4, s5, s6, s7⟩; go_simp; with_reducible rfl
                     rotate_left; · simp only [Act.put, sq4_a, sq4_b, sq4_c, i64_w, i32_w]; rfl
                     refine one_ (i := 1) (N := some 54) bq4_2 rfl rfl (one_of HT_.out (by kernel_rfl)) (by decide) (fun K hK => ?_); refine goes_ Try.func29 (by kernel_rfl) rfl #[.agg #[.int .i64 ((rd_T60 (rd_L5 l0_3 x38_2) x48_3).f0), .string ((rd_T60 (rd_L5 l0_3 x38_2) x48_3).f1), .string ((rd_T60 (rd_L5 l0_3 x38_2) x48_3).f2), .int .i64 ((rd_T60 (rd_L5 l0_3 x38_2) x48_3).f3)]] (by rfl) rfl rfl (by (try simp only [List.map_toArray, List.map_cons, List.map_nil]); first | done | rfl | (simp only [List.length_drop, List.length_take]; rfl)) ?_; (with_reducible refine (spec_l9Meta.calls ((rd_T60 (rd_L5 l0_3 x38_2) x48_3).f0) ((rd_T60 (rd_L5 l0_3 x38_2) x48_3).f1) ((rd_T60 (rd_L5 l0_3 x38_2) x48_3).f2) ((rd_T60 (rd_L5 l0_3 x38_2) x48_3).f3) true _ A27.out).mono ?_); rintro e w47 ⟨rfl, hb⟩; refine ⟨_, rfl, ?_⟩; have n0_ := Aside0.mk (Kd.R_below (by (with_reducible repeat (first | apply Kd.R_alloc | apply Kd.R_drewN | apply Kd.R_drew)); exact HO_3.out) hb); have n1_ := Aside0.mk (blk_below (g := gb151) (o := .cells #[.int .i64 a0_0, .int .i64 a0_1, .int .i64 a0_2, .slice (some ad155) l0_3.length c0_3] 29 (0, 0)) (by (with_reducible repeat (first | refine blk_drewN ?_ _ | refine blk_drew ?_ | refine blk_alloc ?_ _)); exact BK151.out) hb); have n2_ := Aside0.mk (blk_below (g := gb157) (o := .cells #[.int .i64 ((rd_T60 (rd_L5 l0_3 x38_2) x48_3).f0), .string ((rd_T60 (rd_L5 l0_3 x38_2) x48_3).f1), .string ((rd_T60 (rd_L5 l0_3 x38_2) x48_3).f2), .int .i64 ((rd_T60 (rd_L5 l0_3 x38_2) x48_3).f3)] 60 (0, 0)) (by (with_reducible repeat (first | refine blk_drewN ?_ _ | refine blk_drew ?_ | refine blk_alloc ?_ _)); exact BK157.out) hb); have n3_ := Aside0.mk (below_step (by repeat (first | (with_reducible first | exact HB.out | apply below_alloc | apply pw_below_drewN | apply below_drew1 | refine below_set ?_ GE151.out | refine below_set ?_ GE157.out) | exact HB.out)) hb); clear HO_3; clear BK151; clear BK157; clear HB; have HO_3 := n0_; have BK151 := n1_; have BK157 := n2_; have HB := n3_; clear n0_ n1_ n2_ n3_; (try clear hb); (try clear hb2); (try clear hk); (try clear hi); refine hK.out _ _ ⟨(blk_cell BK157.out 0).trans rfl, (blk_cell BK157.out 1).trans rfl, (blk_cell BK157.out 2).trans rfl, (blk_cell BK157.out 3).trans rfl, (blk_cell BK151.out 0).trans rfl, (blk_cell BK151.out 1).trans rfl, (blk_cell BK151.out 2).trans rfl, (blk_cell BK151.out 3).trans rfl⟩ (fun hHeld => ?_); clear hK K; refine norm_ (a' := ?_) ?_ ?_; rotate_left
                     ·show Act.put _ (some 54) _ = _
                      simp only [Act.put, sq4_a, sq4_b, sq4_c, i64_w, i32_w]; rfl
                     refine pure_ (i := 2) (N := some 55) (v := ?_) (a' := ?_) bq4_3 rfl rfl (any_of HT_.out (by kernel_rfl)) (fun _ _ _ h => h) (Or.inl ⟨by rfl, ?_⟩) ?_ ?_; rotate_left; · intro w'; go_simp; with_reducible rfl
                     rotate_left; · simp only [Act.put, sq4_a, sq4_b, sq4_c, i64_w, i32_w]; rfl
                     refine pure_ (i := 3) (N := some 56) (v := ?_) (a' := ?_) bq4_4 rfl rfl (any_of HT_.out (by kernel_rfl)) (fun _ _ _ h => h) (Or.inl ⟨by rfl, ?_⟩) ?_ ?_; rotate_left; · intro w'; go_simp; with_reducible rfl
                     rotate_left; · simp only [Act.put, sq4_a, sq4_b, sq4_c, i64_w, i32_w]; rfl
                     refine pure_ (i := 4) (N := some 57) (v := ?_) (a' := ?_) bq4_5 rfl rfl (any_of HT_.out (by kernel_rfl)) (fun _ _ _ h => h) (Or.inl ⟨by rfl, ?_⟩) ?_ ?_; rotate_left; · intro w'; go_simp; with_reducible rfl
                     rotate_left; · simp only [Act.put, sq4_a, sq4_b, sq4_c, i64_w, i32_w]; rfl
                     refine pure_ (i := 6) (N := some 59) (v := ?_) (a' := ?_) bq4_6 rfl rfl (any_of HT_.out (by kernel_rfl)) (fun _ _ _ h => h) (Or.inl ⟨by rfl, ?_⟩) ?_ ?_; rotate_left; · intro w'; go_simp; with_reducible rfl
                     rotate_left; · simp only [Act.put, sq4_a, sq4_b, sq4_c, i64_w, i32_w]; rfl
                     refine take_ (i := 5) (N := some 58) (v := ?_) (a' := ?_) bq4_7 rfl rfl (take_ofW HT_.out HW_.out (by kernel_rfl)) (fun _ _ _ h => h) (Or.inl ⟨by rfl, ?_⟩) hHeld ?_ ?_; rotate_left; · rintro w' ⟨s0, s1, s2, s3, s4, s5, s6, s7⟩; go_simp; with_reducible rfl
                     rotate_left; · simp only [Act.put, sq4_a, sq4_b, sq4_c, i64_w, i32_w]; rfl
                     refine take_ (i := 7) (N := some 60) (v := ?_) (a' := ?_) bq4_8 rfl rfl (take_ofW HT_.out HW_.out (by kernel_rfl)) (fun _ _ _ h => h) (Or.inl ⟨by rfl, ?_⟩) hHeld ?_ ?_; rotate_left; · rintro w' ⟨s0, s1, s2, s3, s4, s5, s6, s7⟩; go_simp; with_reducible rfl
                     rotate_left; · simp only [Act.put, sq4_a, sq4_b, sq4_c, i64_w, i32_w]; rfl
                     refine pure_ (i := 8) (N := some 61) (v := ?_) (a' := ?_) bq4_9 rfl rfl (any_of HT_.out (by kernel_rfl)) (fun _ _ _ h => h) (Or.inl ⟨by rfl, ?_⟩) ?_ ?_; rotate_left; · intro w'; go_simp; with_reducible rfl
                     rotate_left; · simp only [Act.put, sq4_a, sq4_b, sq4_c, i64_w, i32_w]; rfl
                     refine pure_ (i := 9) (N := some 62) (v := ?_) (a' := ?_) bq4_10 rfl rfl (any_of HT_.out (by kernel_rfl)) (fun _ _ _ h => h) (Or.inl ⟨by rfl, ?_⟩) ?_ ?_; rotate_left; · intro w'; go_simp; with_reducible rfl
                     rotate_left; · simp only [Act.put, sq4_a, sq4_b, sq4_c, i64_w, i32_w]; rfl
                     refine pure_ (i := 10) (N := some 63) (v := ?_) (a' := ?_) bq4_11 rfl rfl (any_of HT_.out (by kernel_rfl)) (fun _ _ _ h => h) (Or.inl ⟨by rfl, ?_⟩) ?_ ?_; rotate_left; · intro w'; go_simp; with_reducible rfl
                     rotate_left; · simp only [Act.put, sq4_a, sq4_b, sq4_c, i64_w, i32_w]; rfl
                     refine pure_ (i := 11) (N := some 64) (v := ?_) (a' := ?_) bq4_12 rfl rfl (any_of HT_.out (by kernel_rfl)) (fun _ _ _ h => h) (Or.inl ⟨by rfl, ?_⟩) ?_ ?_; rotate_left; · intro w'; go_simp; with_reducible rfl
                     rotate_left; · simp only [Act.put, sq4_a, sq4_b, sq4_c, i64_w, i32_w]; rfl
                     refine pure_ (i := 13) (N := some 66) (v := ?_) (a' := ?_) bq4_37 rfl rfl (any_of HT_.out (by kernel_rfl)) (fun _ _ _ h => h) (Or.inl ⟨by rfl, ?_⟩) ?_ ?_; rotate_left; · intro w'; go_simp; with_reducible rfl
                     rotate_left; · simp only [Act.put, sq4_a, sq4_b, sq4_c, i64_w, i32_w]; rfl
                     refine take_ (i := 12) (N := some 65) (v := ?_) (a' := ?_) bq4_14 rfl rfl (take_ofW HT_.out HW_.out (by kernel_rfl)) (fun _ _ _ h => h) (Or.inl ⟨by rfl, ?_⟩) hHeld ?_ ?_; rotate_left; · rintro w' ⟨s0, s1, s2, s3, s4, s5, s6, s7⟩; go_simp; with_reducible rfl
                     rotate_left; · simp only [Act.put, sq4_a, sq4_b, sq4_c, i64_w, i32_w]; rfl
                     refine take_ (i := 14) (N := some 67) (v := ?_) (a' := ?_) bq4_15 rfl rfl (take_ofW HT_.out HW_.out (by kernel_rfl)) (fun _ _ _ h => h) (Or.inl ⟨by rfl, ?_⟩) hHeld ?_ ?_; rotate_left; · rintro w' ⟨s0, s1, s2, s3, s4, s5, s6, s7⟩; go_simp; with_reducible rfl
                     rotate_left; · simp only [Act.put, sq4_a, sq4_b, sq4_c, i64_w, i32_w]; rfl
                     refine pure_ (i := 15) (N := some 68) (v := ?_) (a' := ?_) bq4_16 rfl rfl (any_of HT_.out (by kernel_rfl)) (fun _ _ _ h => h) (Or.inl ⟨by rfl, ?_⟩) ?_ ?_; rotate_left; · intro w'; go_simp; with_reducible rfl
                     rotate_left; · simp only [Act.put, sq4_a, sq4_b, sq4_c, i64_w, i32_w]; rfl
                     refine pure_ (i := 16) (N := some 69) (v := ?_) (a' := ?_) bq4_17 rfl rfl (any_of HT_.out (by kernel_rfl)) (fun _ _ _ h => h) (Or.inl ⟨by rfl, ?_⟩) ?_ ?_; rotate_left; · intro w'; go_simp; with_reducible rfl
                     rotate_left; · simp only [Act.put, sq4_a, sq4_b, sq4_c, i64_w, i32_w]; rfl
                     refine pure_ (i := 17) (N := some 70) (v := ?_) (a' := ?_) bq4_18 rfl rfl (any_of HT_.out (by kernel_rfl)) (fun _ _ _ h => h) (Or.inl ⟨by rfl, ?_⟩) ?_ ?_; rotate_left; · intro w'; go_simp; with_reducible rfl
                     rotate_left; · simp only [Act.put, sq4_a, sq4_b, sq4_c, i64_w, i32_w]; rfl
                     refine pure_ (i := 18) (N := some 71) (v := ?_) (a' := ?_) bq4_19 rfl rfl (any_of HT_.out (by kernel_rfl)) (fun _ _ _ h => h) (Or.inl ⟨by rfl, ?_⟩) ?_ ?_; rotate_left; · intro w'; go_simp; with_reducible rfl
                     rotate_left; · simp only [Act.put, sq4_a, sq4_b, sq4_c, i64_w, i32_w]; rfl
                     refine pure_ (i := 19) (N := some 72) (v := ?_) (a' := ?_) bq4_20 rfl rfl (any_of HT_.out (by kernel_rfl)) (fun _ _ _ h => h) (Or.inl ⟨by rfl, ?_⟩) ?_ ?_; rotate_left; · intro w'; go_simp; with_reducible rfl
                     rotate_left; · simp only [Act.put, sq4_a, sq4_b, sq4_c, i64_w, i32_w]; rfl
                     refine pure_ (i := 20) (N := some 73) (v := ?_) (a' := ?_) bq4_21 rfl rfl (any_of HT_.out (by kernel_rfl)) (fun _ _ _ h => h) (Or.inl ⟨by rfl, ?_⟩) ?_ ?_; rotate_left; · intro w'; go_simp; with_reducible rfl
                     rotate_left; · simp only [Act.put, sq4_a, sq4_b, sq4_c, i64_w, i32_w]; rfl
                     refine pure_ (i := 21) (N := some 74) (v := ?_) (a' := ?_) bq4_22 rfl rfl (any_of HT_.out (by kernel_rfl)) (fun _ _ _ h => h) (Or.inl ⟨by rfl, ?_⟩) ?_ ?_; rotate_left; · intro w'; go_simp; with_reducible rfl
                     rotate_left; · simp only [Act.put, sq4_a, sq4_b, sq4_c, i64_w, i32_w]; rfl
                     refine pure_ (i := 22) (N := some 75) (v := ?_) (a' := ?_) bq4_23 rfl rfl (any_of HT_.out (by kernel_rfl)) (fun _ _ _ h => h) (Or.inl ⟨by rfl, ?_⟩) ?_ ?_; rotate_left; · intro w'; go_simp; with_reducible rfl
                     rotate_left; · simp only [Act.put, sq4_a, sq4_b, sq4_c, i64_w, i32_w]; rfl
                     refine pure_ (i := 23) (N := some 76) (v := ?_) (a' := ?_) bq4_24 rfl rfl (any_of HT_.out (by kernel_rfl)) (fun _ _ _ h => h) (Or.inl ⟨by rfl, ?_⟩) ?_ ?_; rotate_left; · intro w'; go_simp; with_reducible rfl
                     rotate_left; · simp only [Act.put, sq4_a, sq4_b, sq4_c, i64_w, i32_w]; rfl
                     refine pure_ (i := 24) (N := some 77) (v := ?_) (a' := ?_) bq4_25 rfl rfl (any_of HT_.out (by kernel_rfl)) (fun _ _ _ h => h) (Or.inl ⟨by rfl, ?_⟩) ?_ ?_; rotate_left; · intro w'; go_simp; with_reducible rfl
                     rotate_left; · simp only [Act.put, sq4_a, sq4_b, sq4_c, i64_w, i32_w]; rfl
                     refine pure_ (i := 25) (N := some 78) (v := undef) (a' := ?_) bq4_26 rfl rfl (any_of HT_.out (by kernel_rfl)) (fun _ _ _ h => h) (Or.inr ⟨by rfl, rfl⟩) ?_ ?_; rotate_left; · simp only [Act.put, sq4_a, sq4_b, sq4_c, i64_w, i32_w]; rfl
                     refine pure_ (i := 26) (N := some 79) (v := undef) (a' := ?_) bq4_27 rfl rfl (any_of HT_.out (by kernel_rfl)) (fun _ _ _ h => h) (Or.inr ⟨by rfl, rfl⟩) ?_ ?_; rotate_left; · simp only [Act.put, sq4_a, sq4_b, sq4_c, i64_w, i32_w]; rfl
                     refine pure_ (i := 27) (N := some 80) (v := undef) (a' := ?_) bq4_28 rfl rfl (any_of HT_.out (by kernel_rfl)) (fun _ _ _ h => h) (Or.inr ⟨by rfl, rfl⟩) ?_ ?_; rotate_left; · simp only [Act.put, sq4_a, sq4_b, sq4_c, i64_w, i32_w]; rfl
                     refine pure_ (i := 28) (N := some 81) (v := undef) (a' := ?_) bq4_29 rfl rfl (any_of HT_.out (by kernel_rfl)) (fun _ _ _ h => h) (Or.inr ⟨by rfl, rfl⟩) ?_ ?_; rotate_left; · simp only [Act.put, sq4_a, sq4_b, sq4_c, i64_w, i32_w]; rfl
                     refine pure_ (i := 29) (N := some 82) (v := undef) (a' := ?_) bq4_30 rfl rfl (any_of HT_.out (by kernel_rfl)) (fun _ _ _ h => h) (Or.inr ⟨by rfl, rfl⟩) ?_ ?_; rotate_left; · simp only [Act.put, sq4_a, sq4_b, sq4_c, i64_w, i32_w]; rfl
                     refine pure_ (i := 30) (N := some 83) (v := undef) (a' := ?_) bq4_31 rfl rfl (any_of HT_.out (by kernel_rfl)) (fun _ _ _ h => h) (Or.inr ⟨by rfl, rfl⟩) ?_ ?_; rotate_left; · simp only [Act.put, sq4_a, sq4_b, sq4_c, i64_w, i32_w]; rfl
                     refine pure_ (i := 31) (N := some 84) (v := undef) (a' := ?_) bq4_32 rfl rfl (any_of HT_.out (by kernel_rfl)) (fun _ _ _ h => h) (Or.inr ⟨by rfl, rfl⟩) ?_ ?_; rotate_left; · simp only [Act.put, sq4_a, sq4_b, sq4_c, i64_w, i32_w]; rfl
                     refine pure_ (i := 32) (N := some 85) (v := undef) (a' := ?_) bq4_33 rfl rfl (any_of HT_.out (by kernel_rfl)) (fun _ _ _ h => h) (Or.inr ⟨by rfl, rfl⟩) ?_ ?_; rotate_left; · simp only [Act.put, sq4_a, sq4_b, sq4_c, i64_w, i32_w]; rfl
                     refine pure_ (i := 33) (N := some 86) (v := undef) (a' := ?_) bq4_34 rfl rfl (any_of HT_.out (by kernel_rfl)) (fun _ _ _ h => h) (Or.inr ⟨by rfl, rfl⟩) ?_ ?_; rotate_left; · simp only [Act.put, sq4_a, sq4_b, sq4_c, i64_w, i32_w]; rfl
                     refine pure_ (i := 34) (N := some 87) (v := ?_) (a' := ?_) bq4_35 rfl rfl (any_of HT_.out (by kernel_rfl)) (fun _ _ _ h => h) (Or.inl ⟨by rfl, ?_⟩) ?_ ?_; rotate_left; · intro w'; go_simp; with_reducible rfl
                     rotate_left; · simp only [Act.put, sq4_a, sq4_b, sq4_c, i64_w, i32_w]; rfl
                     refine pure_ (i := 35) (N := some 88) (v := ?_) (a' := ?_) bq4_36 rfl rfl (any_of HT_.out (by kernel_rfl)) (fun _ _ _ h => h) (Or.inl ⟨by rfl, ?_⟩) ?_ ?_; rotate_left; · intro w'; go_simp; with_reducible rfl
                     rotate_left; · simp only [Act.put, sq4_a, sq4_b, sq4_c, i64_w, i32_w]; rfl
                     refine done_ (done_of HT_.out (by kernel_rfl)) ?_
                     try go_wp2
                     go_meet
                     case rel => exact ⟨_, (false), (by first | rfl | (simp; done) | (simp [*]; done)), H', ⟨by have := HJ1.out; have := HK2.out; have := HK3.out; first | omega | exact Nat.le_refl _⟩, ⟨by (with_reducible repeat (first | apply Kd.R_alloc | apply Kd.R_drewN | apply Kd.R_drew)); exact HO_3.out⟩, ⟨by (with_reducible repeat (first | refine blk_drewN ?_ _ | refine blk_drew ?_ | refine blk_alloc ?_ _)); exact BK151.out⟩, ⟨by (with_reducible repeat (first | refine blk_drewN ?_ _ | refine blk_drew ?_ | refine blk_alloc ?_ _)); exact BK157.out⟩, ⟨by repeat (first | (with_reducible first | exact HB.out | apply below_alloc | apply pw_below_drewN | apply below_drew1 | refine below_set ?_ GE151.out | refine below_set ?_ GE157.out) | exact HB.out)⟩⟩
                   ·rw [if_neg c37] at H
                    have c37b0 : decide (0 < x38_2) = false := decide_eq_false c37; clear c37; have H' := Aside0.mk H; clear H
                    try go_wp2
                    have n0_ : Aside0 (Kd.R (Kd.int .i64) 3 ((((w24.setCell ⟨gb157, 0, none⟩ (.int .i64 ((rd_T60 (rd_L5 l0_3 x38_2) x48_3).f0))).setCell ⟨gb157, 1, none⟩ (.string ((rd_T60 (rd_L5 l0_3 x38_2) x48_3).f1))).setCell ⟨gb157, 2, none⟩ (.string ((rd_T60 (rd_L5 l0_3 x38_2) x48_3).f2))).setCell ⟨gb157, 3, none⟩ (.int .i64 ((rd_T60 (rd_L5 l0_3 x38_2) x48_3).f3))) w.heap.size (fun _ => True) u3 x3_3) := ⟨by (with_reducible repeat (first | apply Kd.R_alloc | apply Kd.R_drewN | apply Kd.R_drew)); exact Kd.R_mono (Kd.R_far (p := ⟨gb157, 3, none⟩) (Kd.R_far (p := ⟨gb157, 2, none⟩) (Kd.R_far (p := ⟨gb157, 1, none⟩) (Kd.R_far (p := ⟨gb157, 0, none⟩) (Kd.R_types HO_3.out BK157.out (by decide)) (fun _ hk => hk.2) (.int .i64 ((rd_T60 (rd_L5 l0_3 x38_2) x48_3).f0))) (fun _ hk => hk.2) (.string ((rd_T60 (rd_L5 l0_3 x38_2) x48_3).f1))) (fun _ hk => hk.2) (.string ((rd_T60 (rd_L5 l0_3 x38_2) x48_3).f2))) (fun _ hk => hk.2) (.int .i64 ((rd_T60 (rd_L5 l0_3 x38_2) x48_3).f3))) (fun _ hk => trivial)⟩; have n1_ : Aside0 (((((w24.setCell ⟨gb157, 0, none⟩ (.int .i64 ((rd_T60 (rd_L5 l0_3 x38_2) x48_3).f0))).setCell ⟨gb157, 1, none⟩ (.string ((rd_T60 (rd_L5 l0_3 x38_2) x48_3).f1))).setCell ⟨gb157, 2, none⟩ (.string ((rd_T60 (rd_L5 l0_3 x38_2) x48_3).f2))).setCell ⟨gb157, 3, none⟩ (.int .i64 ((rd_T60 (rd_L5 l0_3 x38_2) x48_3).f3))).heap[gb151]? = some (.cells #[.int .i64 a0_0, .int .i64 a0_1, .int .i64 a0_2, .slice (some ad155) l0_3.length c0_3] 29 (0, 0))) := ⟨by (with_reducible repeat (first | refine blk_drewN ?_ _ | refine blk_drew ?_ | refine blk_alloc ?_ _)); refine blk_far ?_ NB151_157.out _; (with_reducible repeat (first | refine blk_drewN ?_ _ | refine blk_drew ?_ | refine blk_alloc ?_ _)); refine blk_far ?_ NB151_157.out _; (with_reducible repeat (first | refine blk_drewN ?_ _ | refine blk_drew ?_ | refine blk_alloc ?_ _)); refine blk_far ?_ NB151_157.out _; (with_reducible repeat (first | refine blk_drewN ?_ _ | refine blk_drew ?_ | refine blk_alloc ?_ _)); refine blk_far ?_ NB151_157.out _; (with_reducible repeat (first | refine blk_drewN ?_ _ | refine blk_drew ?_ | refine blk_alloc ?_ _)); exact BK151.out⟩; have n2_ : Aside0 (((((w24.setCell ⟨gb157, 0, none⟩ (.int .i64 ((rd_T60 (rd_L5 l0_3 x38_2) x48_3).f0))).setCell ⟨gb157, 1, none⟩ (.string ((rd_T60 (rd_L5 l0_3 x38_2) x48_3).f1))).setCell ⟨gb157, 2, none⟩ (.string ((rd_T60 (rd_L5 l0_3 x38_2) x48_3).f2))).setCell ⟨gb157, 3, none⟩ (.int .i64 ((rd_T60 (rd_L5 l0_3 x38_2) x48_3).f3))).heap[gb157]? = some (.cells #[.int .i64 ((rd_T60 (rd_L5 l0_3 x38_2) x48_3).f0), .string ((rd_T60 (rd_L5 l0_3 x38_2) x48_3).f1), .string ((rd_T60 (rd_L5 l0_3 x38_2) x48_3).f2), .int .i64 ((rd_T60 (rd_L5 l0_3 x38_2) x48_3).f3)] 60 (0, 0))) := ⟨by (with_reducible repeat (first | refine blk_drewN ?_ _ | refine blk_drew ?_ | refine blk_alloc ?_ _)); refine blk_put (cs := #[.int .i64 ((rd_T60 (rd_L5 l0_3 x38_2) x48_3).f0), .string ((rd_T60 (rd_L5 l0_3 x38_2) x48_3).f1), .string ((rd_T60 (rd_L5 l0_3 x38_2) x48_3).f2), .int .i64 0]) ?_ 3 _ rfl; (with_reducible repeat (first | refine blk_drewN ?_ _ | refine blk_drew ?_ | refine blk_alloc ?_ _)); refine blk_put (cs := #[.int .i64 ((rd_T60 (rd_L5 l0_3 x38_2) x48_3).f0), .string ((rd_T60 (rd_L5 l0_3 x38_2) x48_3).f1), .string (⟨#[]⟩ : ByteArray), .int .i64 0]) ?_ 2 _ rfl; (with_reducible repeat (first | refine blk_drewN ?_ _ | refine blk_drew ?_ | refine blk_alloc ?_ _)); refine blk_put (cs := #[.int .i64 ((rd_T60 (rd_L5 l0_3 x38_2) x48_3).f0), .string (⟨#[]⟩ : ByteArray), .string (⟨#[]⟩ : ByteArray), .int .i64 0]) ?_ 1 _ rfl; (with_reducible repeat (first | refine blk_drewN ?_ _ | refine blk_drew ?_ | refine blk_alloc ?_ _)); refine blk_put (cs := #[.int .i64 0, .string (⟨#[]⟩ : ByteArray), .string (⟨#[]⟩ : ByteArray), .int .i64 0]) ?_ 0 _ rfl; (with_reducible repeat (first | refine blk_drewN ?_ _ | refine blk_drew ?_ | refine blk_alloc ?_ _)); exact BK157.out⟩
                    have n3_ : Aside0 (Below w.heap.size w ((((w24.setCell ⟨gb157, 0, none⟩ (.int .i64 ((rd_T60 (rd_L5 l0_3 x38_2) x48_3).f0))).setCell ⟨gb157, 1, none⟩ (.string ((rd_T60 (rd_L5 l0_3 x38_2) x48_3).f1))).setCell ⟨gb157, 2, none⟩ (.string ((rd_T60 (rd_L5 l0_3 x38_2) x48_3).f2))).setCell ⟨gb157, 3, none⟩ (.int .i64 ((rd_T60 (rd_L5 l0_3 x38_2) x48_3).f3)))) := ⟨by repeat (first | (with_reducible first | exact HB.out | apply below_alloc | apply pw_below_drewN | apply below_drew1 | refine below_set ?_ GE151.out | refine below_set ?_ GE157.out) | exact HB.out)⟩; (try clear HO_3); (try clear BK151); (try clear BK157); (try clear HB); generalize ((((w24.setCell ⟨gb157, 0, none⟩ (.int .i64 ((rd_T60 (rd_L5 l0_3 x38_2) x48_3).f0))).setCell ⟨gb157, 1, none⟩ (.string ((rd_T60 (rd_L5 l0_3 x38_2) x48_3).f1))).setCell ⟨gb157, 2, none⟩ (.string ((rd_T60 (rd_L5 l0_3 x38_2) x48_3).f2))).setCell ⟨gb157, 3, none⟩ (.int .i64 ((rd_T60 (rd_L5 l0_3 x38_2) x48_3).f3))) = w48 at n0_ n1_ n2_ n3_ ⊢; have HO_3 := n0_; have BK151 := n1_; have BK157 := n2_; have HB := n3_; clear n0_ n1_ n2_ n3_; have n0_ := Aside0.mk (Kd.R_drew HO_3.out); have n1_ := Aside0.mk (blk_drew BK151.out); have n2_ := Aside0.mk (blk_drew BK157.out); have n3_ := Aside0.mk (below_drew1 HB.out); clear HO_3; clear BK151; clear BK157; clear HB; have HO_3 := n0_; have BK151 := n1_; have BK157 := n2_; have HB := n3_; clear n0_ n1_ n2_ n3_
                    refine start_ (n := 36) (S := fun w' => w'.cell? ⟨gb157, 0, none⟩ = some (.int .i64 ((rd_T60 (rd_L5 l0_3 x38_2) x48_3).f0)) ∧ w'.cell? ⟨gb157, 1, none⟩ = some (.string ((rd_T60 (rd_L5 l0_3 x38_2) x48_3).f1)) ∧ w'.cell? ⟨gb157, 2, none⟩ = some (.string ((rd_T60 (rd_L5 l0_3 x38_2) x48_3).f2)) ∧ w'.cell? ⟨gb157, 3, none⟩ = some (.int .i64 ((rd_T60 (rd_L5 l0_3 x38_2) x48_3).f3)) ∧ w'.cell? ⟨gb151, 0, none⟩ = some (.int .i64 a0_0) ∧ w'.cell? ⟨gb151, 1, none⟩ = some (.int .i64 a0_1) ∧ w'.cell? ⟨gb151, 2, none⟩ = some (.int .i64 a0_2) ∧ w'.cell? ⟨gb151, 3, none⟩ = some (.slice (some ad155) l0_3.length c0_3)) (ds := []) bq4_0 (by kernel_rfl) rfl rfl ⟨(blk_cell BK157.out 0).trans rfl, (blk_cell BK157.out 1).trans rfl, (blk_cell BK157.out 2).trans rfl, (blk_cell BK157.out 3).trans rfl, (blk_cell BK151.out 0).trans rfl, (blk_cell BK151.out 1).trans rfl, (blk_cell BK151.out 2).trans rfl, (blk_cell BK151.out 3).trans rfl⟩ (fun hHeld => ?_); refine with_tabW spec_GoodVersion.tab12 spec_GoodVersion.bits12 (fun HT_ HW_ => ?_)
                    generalize w48.drew = w49 at HO_3 BK151 BK157 HB hHeld ⊢; refine take_ (i := 0) (N := some 53) (v := ?_) (a' := ?_) bq4_1 rfl rfl (take_ofW HT_.out HW_.out (by kernel_rfl)) (fun _ _ _ h => h) (Or.inl ⟨by rfl, ?_⟩) hHeld ?_ ?_; rotate_left; · rintro w' ⟨s0, s1, s2, s3, s4, s5, s6, s7⟩; go_simp; with_reducible rfl
                    rotate_left; · simp only [Act.put, sq4_a, sq4_b, sq4_c, i64_w, i32_w]; rfl
                    refine one_ (i := 1) (N := some 54) bq4_2 rfl rfl (one_of HT_.out (by kernel_rfl)) (by decide) (fun K hK => ?_); refine goes_ Try.func29 (by kernel_rfl) rfl #[.agg #[.int .i64 ((rd_T60 (rd_L5 l0_3 x38_2) x48_3).f0), .string ((rd_T60 (rd_L5 l0_3 x38_2) x48_3).f1), .string ((rd_T60 (rd_L5 l0_3 x38_2) x48_3).f2), .int .i64 ((rd_T60 (rd_L5 l0_3 x38_2) x48_3).f3)]] (by rfl) rfl rfl (by (try simp only [List.map_toArray, List.map_cons, List.map_nil]); first | done | rfl | (simp only [List.length_drop, List.length_take]; rfl)) ?_; (with_reducible refine (spec_l9Meta.calls ((rd_T60 (rd_L5 l0_3 x38_2) x48_3).f0) ((rd_T60 (rd_L5 l0_3 x38_2) x48_3).f1) ((rd_T60 (rd_L5 l0_3 x38_2) x48_3).f2) ((rd_T60 (rd_L5 l0_3 x38_2) x48_3).f3) true _ A27.out).mono ?_); rintro e w50 ⟨rfl, hb⟩; refine ⟨_, rfl, ?_⟩; have n0_ := Aside0.mk (Kd.R_below (by (with_reducible repeat (first | apply Kd.R_alloc | apply Kd.R_drewN | apply Kd.R_drew)); exact HO_3.out) hb); have n1_ := Aside0.mk (blk_below (g := gb151) (o := .cells #[.int .i64 a0_0, .int .i64 a0_1, .int .i64 a0_2, .slice (some ad155) l0_3.length c0_3] 29 (0, 0)) (by (with_reducible repeat (first | refine blk_drewN ?_ _ | refine blk_drew ?_ | refine blk_alloc ?_ _)); exact BK151.out) hb); have n2_ := Aside0.mk (blk_below (g := gb157) (o := .cells #[.int .i64 ((rd_T60 (rd_L5 l0_3 x38_2) x48_3).f0), .string ((rd_T60 (rd_L5 l0_3 x38_2) x48_3).f1), .string ((rd_T60 (rd_L5 l0_3 x38_2) x48_3).f2), .int .i64 ((rd_T60 (rd_L5 l0_3 x38_2) x48_3).f3)] 60 (0, 0)) (by (with_reducible repeat (first | refine blk_drewN ?_ _ | refine blk_drew ?_ | refine blk_alloc ?_ _)); exact BK157.out) hb); have n3_ := Aside0.mk (below_step (by repeat (first | (with_reducible first | exact HB.out | apply below_alloc | apply pw_below_drewN | apply below_drew1 | refine below_set ?_ GE151.out | refine below_set ?_ GE157.out) | exact HB.out)) hb); clear HO_3; clear BK151; clear BK157; clear HB; have HO_3 := n0_; have BK151 := n1_; have BK157 := n2_; have HB := n3_; clear n0_ n1_ n2_ n3_; (try clear hb); (try clear hb2); (try clear hk); (try clear hi); refine hK.out _ _ ⟨(blk_cell BK157.out 0).trans rfl, (blk_cell BK157.out 1).trans rfl, (blk_cell BK157.out 2).trans rfl, (blk_cell BK157.out 3).trans rfl, (blk_cell BK151.out 0).trans rfl, (blk_cell BK151.out 1).trans rfl, (blk_cell BK151.out 2).trans rfl, (blk_cell BK151.out 3).trans rfl⟩ (fun hHeld => ?_); clear hK K; refine norm_ (a' := ?_) ?_ ?_; rotate_left
                    ·show Act.put _ (some 54) _ = _
                     simp only [Act.put, sq4_a, sq4_b, sq4_c, i64_w, i32_w]; rfl
                    refine pure_ (i := 2) (N := some 55) (v := ?_) (a' := ?_) bq4_3 rfl rfl (any_of HT_.out (by kernel_rfl)) (fun _ _ _ h => h) (Or.inl ⟨by rfl, ?_⟩) ?_ ?_; rotate_left; · intro w'; go_simp; with_reducible rfl
                    rotate_left; · simp only [Act.put, sq4_a, sq4_b, sq4_c, i64_w, i32_w]; rfl
                    refine pure_ (i := 3) (N := some 56) (v := ?_) (a' := ?_) bq4_4 rfl rfl (any_of HT_.out (by kernel_rfl)) (fun _ _ _ h => h) (Or.inl ⟨by rfl, ?_⟩) ?_ ?_; rotate_left; · intro w'; go_simp; with_reducible rfl
                    rotate_left; · simp only [Act.put, sq4_a, sq4_b, sq4_c, i64_w, i32_w]; rfl
                    refine pure_ (i := 4) (N := some 57) (v := ?_) (a' := ?_) bq4_5 rfl rfl (any_of HT_.out (by kernel_rfl)) (fun _ _ _ h => h) (Or.inl ⟨by rfl, ?_⟩) ?_ ?_; rotate_left; · intro w'; go_simp; with_reducible rfl
                    rotate_left; · simp only [Act.put, sq4_a, sq4_b, sq4_c, i64_w, i32_w]; rfl
                    refine pure_ (i := 6) (N := some 59) (v := ?_) (a' := ?_) bq4_6 rfl rfl (any_of HT_.out (by kernel_rfl)) (fun _ _ _ h => h) (Or.inl ⟨by rfl, ?_⟩) ?_ ?_; rotate_left; · intro w'; go_simp; with_reducible rfl
                    rotate_left; · simp only [Act.put, sq4_a, sq4_b, sq4_c, i64_w, i32_w]; rfl
                    refine take_ (i := 5) (N := some 58) (v := ?_) (a' := ?_) bq4_7 rfl rfl (take_ofW HT_.out HW_.out (by kernel_rfl)) (fun _ _ _ h => h) (Or.inl ⟨by rfl, ?_⟩) hHeld ?_ ?_; rotate_left; · rintro w' ⟨s0, s1, s2, s3, s4, s5, s6, s7⟩; go_simp; with_reducible rfl
                    rotate_left; · simp only [Act.put, sq4_a, sq4_b, sq4_c, i64_w, i32_w]; rfl
                    refine take_ (i := 7) (N := some 60) (v := ?_) (a' := ?_) bq4_8 rfl rfl (take_ofW HT_.out HW_.out (by kernel_rfl)) (fun _ _ _ h => h) (Or.inl ⟨by rfl, ?_⟩) hHeld ?_ ?_; rotate_left; · rintro w' ⟨s0, s1, s2, s3, s4, s5, s6, s7⟩; go_simp; with_reducible rfl
                    rotate_left; · simp only [Act.put, sq4_a, sq4_b, sq4_c, i64_w, i32_w]; rfl
                    refine pure_ (i := 8) (N := some 61) (v := ?_) (a' := ?_) bq4_9 rfl rfl (any_of HT_.out (by kernel_rfl)) (fun _ _ _ h => h) (Or.inl ⟨by rfl, ?_⟩) ?_ ?_; rotate_left; · intro w'; go_simp; with_reducible rfl
                    rotate_left; · simp only [Act.put, sq4_a, sq4_b, sq4_c, i64_w, i32_w]; rfl
                    refine pure_ (i := 9) (N := some 62) (v := ?_) (a' := ?_) bq4_10 rfl rfl (any_of HT_.out (by kernel_rfl)) (fun _ _ _ h => h) (Or.inl ⟨by rfl, ?_⟩) ?_ ?_; rotate_left; · intro w'; go_simp; with_reducible rfl
                    rotate_left; · simp only [Act.put, sq4_a, sq4_b, sq4_c, i64_w, i32_w]; rfl
                    refine pure_ (i := 10) (N := some 63) (v := ?_) (a' := ?_) bq4_11 rfl rfl (any_of HT_.out (by kernel_rfl)) (fun _ _ _ h => h) (Or.inl ⟨by rfl, ?_⟩) ?_ ?_; rotate_left; · intro w'; go_simp; with_reducible rfl
                    rotate_left; · simp only [Act.put, sq4_a, sq4_b, sq4_c, i64_w, i32_w]; rfl
                    refine pure_ (i := 11) (N := some 64) (v := ?_) (a' := ?_) bq4_12 rfl rfl (any_of HT_.out (by kernel_rfl)) (fun _ _ _ h => h) (Or.inl ⟨by rfl, ?_⟩) ?_ ?_; rotate_left; · intro w'; go_simp; with_reducible rfl
                    rotate_left; · simp only [Act.put, sq4_a, sq4_b, sq4_c, i64_w, i32_w]; rfl
                    refine pure_ (i := 13) (N := some 66) (v := ?_) (a' := ?_) bq4_37 rfl rfl (any_of HT_.out (by kernel_rfl)) (fun _ _ _ h => h) (Or.inl ⟨by rfl, ?_⟩) ?_ ?_; rotate_left; · intro w'; go_simp; with_reducible rfl
                    rotate_left; · simp only [Act.put, sq4_a, sq4_b, sq4_c, i64_w, i32_w]; rfl
                    refine take_ (i := 12) (N := some 65) (v := ?_) (a' := ?_) bq4_14 rfl rfl (take_ofW HT_.out HW_.out (by kernel_rfl)) (fun _ _ _ h => h) (Or.inl ⟨by rfl, ?_⟩) hHeld ?_ ?_; rotate_left; · rintro w' ⟨s0, s1, s2, s3, s4, s5, s6, s7⟩; go_simp; with_reducible rfl
                    rotate_left; · simp only [Act.put, sq4_a, sq4_b, sq4_c, i64_w, i32_w]; rfl
                    refine take_ (i := 14) (N := some 67) (v := ?_) (a' := ?_) bq4_15 rfl rfl (take_ofW HT_.out HW_.out (by kernel_rfl)) (fun _ _ _ h => h) (Or.inl ⟨by rfl, ?_⟩) hHeld ?_ ?_; rotate_left; · rintro w' ⟨s0, s1, s2, s3, s4, s5, s6, s7⟩; go_simp; with_reducible rfl
                    rotate_left; · simp only [Act.put, sq4_a, sq4_b, sq4_c, i64_w, i32_w]; rfl
                    refine pure_ (i := 15) (N := some 68) (v := ?_) (a' := ?_) bq4_16 rfl rfl (any_of HT_.out (by kernel_rfl)) (fun _ _ _ h => h) (Or.inl ⟨by rfl, ?_⟩) ?_ ?_; rotate_left; · intro w'; go_simp; with_reducible rfl
                    rotate_left; · simp only [Act.put, sq4_a, sq4_b, sq4_c, i64_w, i32_w]; rfl
                    refine pure_ (i := 16) (N := some 69) (v := ?_) (a' := ?_) bq4_17 rfl rfl (any_of HT_.out (by kernel_rfl)) (fun _ _ _ h => h) (Or.inl ⟨by rfl, ?_⟩) ?_ ?_; rotate_left; · intro w'; go_simp; with_reducible rfl
                    rotate_left; · simp only [Act.put, sq4_a, sq4_b, sq4_c, i64_w, i32_w]; rfl
                    refine pure_ (i := 17) (N := some 70) (v := ?_) (a' := ?_) bq4_18 rfl rfl (any_of HT_.out (by kernel_rfl)) (fun _ _ _ h => h) (Or.inl ⟨by rfl, ?_⟩) ?_ ?_; rotate_left; · intro w'; go_simp; with_reducible rfl
                    rotate_left; · simp only [Act.put, sq4_a, sq4_b, sq4_c, i64_w, i32_w]; rfl
                    refine pure_ (i := 18) (N := some 71) (v := ?_) (a' := ?_) bq4_19 rfl rfl (any_of HT_.out (by kernel_rfl)) (fun _ _ _ h => h) (Or.inl ⟨by rfl, ?_⟩) ?_ ?_; rotate_left; · intro w'; go_simp; with_reducible rfl
                    rotate_left; · simp only [Act.put, sq4_a, sq4_b, sq4_c, i64_w, i32_w]; rfl
                    refine pure_ (i := 19) (N := some 72) (v := ?_) (a' := ?_) bq4_20 rfl rfl (any_of HT_.out (by kernel_rfl)) (fun _ _ _ h => h) (Or.inl ⟨by rfl, ?_⟩) ?_ ?_; rotate_left; · intro w'; go_simp; with_reducible rfl
                    rotate_left; · simp only [Act.put, sq4_a, sq4_b, sq4_c, i64_w, i32_w]; rfl
                    refine pure_ (i := 20) (N := some 73) (v := ?_) (a' := ?_) bq4_21 rfl rfl (any_of HT_.out (by kernel_rfl)) (fun _ _ _ h => h) (Or.inl ⟨by rfl, ?_⟩) ?_ ?_; rotate_left; · intro w'; go_simp; with_reducible rfl
                    rotate_left; · simp only [Act.put, sq4_a, sq4_b, sq4_c, i64_w, i32_w]; rfl
                    refine pure_ (i := 21) (N := some 74) (v := undef) (a' := ?_) bq4_22 rfl rfl (any_of HT_.out (by kernel_rfl)) (fun _ _ _ h => h) (Or.inr ⟨by rfl, rfl⟩) ?_ ?_; rotate_left; · simp only [Act.put, sq4_a, sq4_b, sq4_c, i64_w, i32_w]; rfl
                    refine pure_ (i := 22) (N := some 75) (v := undef) (a' := ?_) bq4_23 rfl rfl (any_of HT_.out (by kernel_rfl)) (fun _ _ _ h => h) (Or.inr ⟨by rfl, rfl⟩) ?_ ?_; rotate_left; · simp only [Act.put, sq4_a, sq4_b, sq4_c, i64_w, i32_w]; rfl
                    refine pure_ (i := 23) (N := some 76) (v := ?_) (a' := ?_) bq4_24 rfl rfl (any_of HT_.out (by kernel_rfl)) (fun _ _ _ h => h) (Or.inl ⟨by rfl, ?_⟩) ?_ ?_; rotate_left; · intro w'; go_simp; with_reducible rfl
                    rotate_left; · simp only [Act.put, sq4_a, sq4_b, sq4_c, i64_w, i32_w]; rfl
                    refine pure_ (i := 24) (N := some 77) (v := ?_) (a' := ?_) bq4_25 rfl rfl (any_of HT_.out (by kernel_rfl)) (fun _ _ _ h => h) (Or.inl ⟨by rfl, ?_⟩) ?_ ?_; rotate_left; · intro w'; go_simp; with_reducible rfl
                    rotate_left; · simp only [Act.put, sq4_a, sq4_b, sq4_c, i64_w, i32_w]; rfl
                    refine pure_ (i := 25) (N := some 78) (v := undef) (a' := ?_) bq4_26 rfl rfl (any_of HT_.out (by kernel_rfl)) (fun _ _ _ h => h) (Or.inr ⟨by rfl, rfl⟩) ?_ ?_; rotate_left; · simp only [Act.put, sq4_a, sq4_b, sq4_c, i64_w, i32_w]; rfl
                    refine pure_ (i := 26) (N := some 79) (v := undef) (a' := ?_) bq4_27 rfl rfl (any_of HT_.out (by kernel_rfl)) (fun _ _ _ h => h) (Or.inr ⟨by rfl, rfl⟩) ?_ ?_; rotate_left; · simp only [Act.put, sq4_a, sq4_b, sq4_c, i64_w, i32_w]; rfl
                    refine pure_ (i := 27) (N := some 80) (v := undef) (a' := ?_) bq4_28 rfl rfl (any_of HT_.out (by kernel_rfl)) (fun _ _ _ h => h) (Or.inr ⟨by rfl, rfl⟩) ?_ ?_; rotate_left; · simp only [Act.put, sq4_a, sq4_b, sq4_c, i64_w, i32_w]; rfl
                    refine pure_ (i := 28) (N := some 81) (v := undef) (a' := ?_) bq4_29 rfl rfl (any_of HT_.out (by kernel_rfl)) (fun _ _ _ h => h) (Or.inr ⟨by rfl, rfl⟩) ?_ ?_; rotate_left; · simp only [Act.put, sq4_a, sq4_b, sq4_c, i64_w, i32_w]; rfl
                    refine pure_ (i := 29) (N := some 82) (v := undef) (a' := ?_) bq4_30 rfl rfl (any_of HT_.out (by kernel_rfl)) (fun _ _ _ h => h) (Or.inr ⟨by rfl, rfl⟩) ?_ ?_; rotate_left; · simp only [Act.put, sq4_a, sq4_b, sq4_c, i64_w, i32_w]; rfl
                    refine pure_ (i := 30) (N := some 83) (v := undef) (a' := ?_) bq4_31 rfl rfl (any_of HT_.out (by kernel_rfl)) (fun _ _ _ h => h) (Or.inr ⟨by rfl, rfl⟩) ?_ ?_; rotate_left; · simp only [Act.put, sq4_a, sq4_b, sq4_c, i64_w, i32_w]; rfl
                    refine pure_ (i := 31) (N := some 84) (v := undef) (a' := ?_) bq4_32 rfl rfl (any_of HT_.out (by kernel_rfl)) (fun _ _ _ h => h) (Or.inr ⟨by rfl, rfl⟩) ?_ ?_; rotate_left; · simp only [Act.put, sq4_a, sq4_b, sq4_c, i64_w, i32_w]; rfl
                    refine pure_ (i := 32) (N := some 85) (v := undef) (a' := ?_) bq4_33 rfl rfl (any_of HT_.out (by kernel_rfl)) (fun _ _ _ h => h) (Or.inr ⟨by rfl, rfl⟩) ?_ ?_; rotate_left; · simp only [Act.put, sq4_a, sq4_b, sq4_c, i64_w, i32_w]; rfl
                    refine pure_ (i := 33) (N := some 86) (v := undef) (a' := ?_) bq4_34 rfl rfl (any_of HT_.out (by kernel_rfl)) (fun _ _ _ h => h) (Or.inr ⟨by rfl, rfl⟩) ?_ ?_; rotate_left; · simp only [Act.put, sq4_a, sq4_b, sq4_c, i64_w, i32_w]; rfl
                    refine pure_ (i := 34) (N := some 87) (v := ?_) (a' := ?_) bq4_35 rfl rfl (any_of HT_.out (by kernel_rfl)) (fun _ _ _ h => h) (Or.inl ⟨by rfl, ?_⟩) ?_ ?_; rotate_left; · intro w'; go_simp; with_reducible rfl
                    rotate_left; · simp only [Act.put, sq4_a, sq4_b, sq4_c, i64_w, i32_w]; rfl
                    refine pure_ (i := 35) (N := some 88) (v := ?_) (a' := ?_) bq4_36 rfl rfl (any_of HT_.out (by kernel_rfl)) (fun _ _ _ h => h) (Or.inl ⟨by rfl, ?_⟩) ?_ ?_; rotate_left; · intro w'; go_simp; with_reducible rfl
                    rotate_left; · simp only [Act.put, sq4_a, sq4_b, sq4_c, i64_w, i32_w]; rfl
                    refine done_ (done_of HT_.out (by kernel_rfl)) ?_
                    try go_wp2
                    go_meet
                    case rel => exact ⟨_, (false), (by first | rfl | (simp; done) | (simp [*]; done)), H', ⟨by have := HJ1.out; have := HK2.out; have := HK3.out; first | omega | exact Nat.le_refl _⟩, ⟨by (with_reducible repeat (first | apply Kd.R_alloc | apply Kd.R_drewN | apply Kd.R_drew)); exact HO_3.out⟩, ⟨by (with_reducible repeat (first | refine blk_drewN ?_ _ | refine blk_drew ?_ | refine blk_alloc ?_ _)); exact BK151.out⟩, ⟨by (with_reducible repeat (first | refine blk_drewN ?_ _ | refine blk_drew ?_ | refine blk_alloc ?_ _)); exact BK157.out⟩, ⟨by repeat (first | (with_reducible first | exact HB.out | apply below_alloc | apply pw_below_drewN | apply below_drew1 | refine below_set ?_ GE151.out | refine below_set ?_ GE157.out) | exact HB.out)⟩⟩
                ·replace c28 := Bool.eq_false_iff.mpr c28
                 subst c28
                 have H1 : (spec_GoodVersion.j3 k3 x3_3 x38_2 (rd_L5 l0_3 x38_2) l0_3 (l0_3.length : Int) x38_2 (rd_L5 l0_3 x38_2) ((rd_L5 l0_3 x38_2).length : Int) x48_3 true a0_0 a0_1 a0_2 l0_3 ((rd_T60 (rd_L5 l0_3 x38_2) x48_3).f0) ((rd_T60 (rd_L5 l0_3 x38_2) x48_3).f1) ((rd_T60 (rd_L5 l0_3 x38_2) x48_3).f2) ((rd_T60 (rd_L5 l0_3 x38_2) x48_3).f3)) = some r := by rw [if_neg (show ¬ (false = true) by decide)] at H; exact H
                 clear H; have H := H1; clear H1; have H' := Aside0.mk H; clear H
                 try go_wp2
                 have n0_ : Aside0 (Kd.R (Kd.int .i64) 3 ((((w24.setCell ⟨gb157, 0, none⟩ (.int .i64 ((rd_T60 (rd_L5 l0_3 x38_2) x48_3).f0))).setCell ⟨gb157, 1, none⟩ (.string ((rd_T60 (rd_L5 l0_3 x38_2) x48_3).f1))).setCell ⟨gb157, 2, none⟩ (.string ((rd_T60 (rd_L5 l0_3 x38_2) x48_3).f2))).setCell ⟨gb157, 3, none⟩ (.int .i64 ((rd_T60 (rd_L5 l0_3 x38_2) x48_3).f3))) w.heap.size (fun _ => True) u3 x3_3) := ⟨by (with_reducible repeat (first | apply Kd.R_alloc | apply Kd.R_drewN | apply Kd.R_drew)); exact Kd.R_mono (Kd.R_far (p := ⟨gb157, 3, none⟩) (Kd.R_far (p := ⟨gb157, 2, none⟩) (Kd.R_far (p := ⟨gb157, 1, none⟩) (Kd.R_far (p := ⟨gb157, 0, none⟩) (Kd.R_types HO_3.out BK157.out (by decide)) (fun _ hk => hk.2) (.int .i64 ((rd_T60 (rd_L5 l0_3 x38_2) x48_3).f0))) (fun _ hk => hk.2) (.string ((rd_T60 (rd_L5 l0_3 x38_2) x48_3).f1))) (fun _ hk => hk.2) (.string ((rd_T60 (rd_L5 l0_3 x38_2) x48_3).f2))) (fun _ hk => hk.2) (.int .i64 ((rd_T60 (rd_L5 l0_3 x38_2) x48_3).f3))) (fun _ hk => trivial)⟩; have n1_ : Aside0 (((((w24.setCell ⟨gb157, 0, none⟩ (.int .i64 ((rd_T60 (rd_L5 l0_3 x38_2) x48_3).f0))).setCell ⟨gb157, 1, none⟩ (.string ((rd_T60 (rd_L5 l0_3 x38_2) x48_3).f1))).setCell ⟨gb157, 2, none⟩ (.string ((rd_T60 (rd_L5 l0_3 x38_2) x48_3).f2))).setCell ⟨gb157, 3, none⟩ (.int .i64 ((rd_T60 (rd_L5 l0_3 x38_2) x48_3).f3))).heap[gb151]? = some (.cells #[.int .i64 a0_0, .int .i64 a0_1, .int .i64 a0_2, .slice (some ad155) l0_3.length c0_3] 29 (0, 0))) := ⟨by (with_reducible repeat (first | refine blk_drewN ?_ _ | refine blk_drew ?_ | refine blk_alloc ?_ _)); refine blk_far ?_ NB151_157.out _; (with_reducible repeat (first | refine blk_drewN ?_ _ | refine blk_drew ?_ | refine blk_alloc ?_ _)); refine blk_far ?_ NB151_157.out _; (with_reducible repeat (first | refine blk_drewN ?_ _ | refine blk_drew ?_ | refine blk_alloc ?_ _)); refine blk_far ?_ NB151_157.out _; (with_reducible repeat (first | refine blk_drewN ?_ _ | refine blk_drew ?_ | refine blk_alloc ?_ _)); refine blk_far ?_ NB151_157.out _; (with_reducible repeat (first | refine blk_drewN ?_ _ | refine blk_drew ?_ | refine blk_alloc ?_ _)); exact BK151.out⟩; have n2_ : Aside0 (((((w24.setCell ⟨gb157, 0, none⟩ (.int .i64 ((rd_T60 (rd_L5 l0_3 x38_2) x48_3).f0))).setCell ⟨gb157, 1, none⟩ (.string ((rd_T60 (rd_L5 l0_3 x38_2) x48_3).f1))).setCell ⟨gb157, 2, none⟩ (.string ((rd_T60 (rd_L5 l0_3 x38_2) x48_3).f2))).setCell ⟨gb157, 3, none⟩ (.int .i64 ((rd_T60 (rd_L5 l0_3 x38_2) x48_3).f3))).heap[gb157]? = some (.cells #[.int .i64 ((rd_T60 (rd_L5 l0_3 x38_2) x48_3).f0), .string ((rd_T60 (rd_L5 l0_3 x38_2) x48_3).f1), .string ((rd_T60 (rd_L5 l0_3 x38_2) x48_3).f2), .int .i64 ((rd_T60 (rd_L5 l0_3 x38_2) x48_3).f3)] 60 (0, 0))) := ⟨by (with_reducible repeat (first | refine blk_drewN ?_ _ | refine blk_drew ?_ | refine blk_alloc ?_ _)); refine blk_put (cs := #[.int .i64 ((rd_T60 (rd_L5 l0_3 x38_2) x48_3).f0), .string ((rd_T60 (rd_L5 l0_3 x38_2) x48_3).f1), .string ((rd_T60 (rd_L5 l0_3 x38_2) x48_3).f2), .int .i64 0]) ?_ 3 _ rfl; (with_reducible repeat (first | refine blk_drewN ?_ _ | refine blk_drew ?_ | refine blk_alloc ?_ _)); refine blk_put (cs := #[.int .i64 ((rd_T60 (rd_L5 l0_3 x38_2) x48_3).f0), .string ((rd_T60 (rd_L5 l0_3 x38_2) x48_3).f1), .string (⟨#[]⟩ : ByteArray), .int .i64 0]) ?_ 2 _ rfl; (with_reducible repeat (first | refine blk_drewN ?_ _ | refine blk_drew ?_ | refine blk_alloc ?_ _)); refine blk_put (cs := #[.int .i64 ((rd_T60 (rd_L5 l0_3 x38_2) x48_3).f0), .string (⟨#[]⟩ : ByteArray), .string (⟨#[]⟩ : ByteArray), .int .i64 0]) ?_ 1 _ rfl; (with_reducible repeat (first | refine blk_drewN ?_ _ | refine blk_drew ?_ | refine blk_alloc ?_ _)); refine blk_put (cs := #[.int .i64 0, .string (⟨#[]⟩ : ByteArray), .string (⟨#[]⟩ : ByteArray), .int .i64 0]) ?_ 0 _ rfl; (with_reducible repeat (first | refine blk_drewN ?_ _ | refine blk_drew ?_ | refine blk_alloc ?_ _)); exact BK157.out⟩
                 have n3_ : Aside0 (Below w.heap.size w ((((w24.setCell ⟨gb157, 0, none⟩ (.int .i64 ((rd_T60 (rd_L5 l0_3 x38_2) x48_3).f0))).setCell ⟨gb157, 1, none⟩ (.string ((rd_T60 (rd_L5 l0_3 x38_2) x48_3).f1))).setCell ⟨gb157, 2, none⟩ (.string ((rd_T60 (rd_L5 l0_3 x38_2) x48_3).f2))).setCell ⟨gb157, 3, none⟩ (.int .i64 ((rd_T60 (rd_L5 l0_3 x38_2) x48_3).f3)))) := ⟨by repeat (first | (with_reducible first | exact HB.out | apply below_alloc | apply pw_below_drewN | apply below_drew1 | refine below_set ?_ GE151.out | refine below_set ?_ GE157.out) | exact HB.out)⟩; (try clear HO_3); (try clear BK151); (try clear BK157); (try clear HB); generalize ((((w24.setCell ⟨gb157, 0, none⟩ (.int .i64 ((rd_T60 (rd_L5 l0_3 x38_2) x48_3).f0))).setCell ⟨gb157, 1, none⟩ (.string ((rd_T60 (rd_L5 l0_3 x38_2) x48_3).f1))).setCell ⟨gb157, 2, none⟩ (.string ((rd_T60 (rd_L5 l0_3 x38_2) x48_3).f2))).setCell ⟨gb157, 3, none⟩ (.int .i64 ((rd_T60 (rd_L5 l0_3 x38_2) x48_3).f3))) = w51 at n0_ n1_ n2_ n3_ ⊢; have HO_3 := n0_; have BK151 := n1_; have BK157 := n2_; have HB := n3_; clear n0_ n1_ n2_ n3_; have n0_ := Aside0.mk (Kd.R_drew HO_3.out); have n1_ := Aside0.mk (blk_drew BK151.out); have n2_ := Aside0.mk (blk_drew BK157.out); have n3_ := Aside0.mk (below_drew1 HB.out); clear HO_3; clear BK151; clear BK157; clear HB; have HO_3 := n0_; have BK151 := n1_; have BK157 := n2_; have HB := n3_; clear n0_ n1_ n2_ n3_
                 refine start_ (n := 36) (S := fun w' => w'.cell? ⟨gb157, 0, none⟩ = some (.int .i64 ((rd_T60 (rd_L5 l0_3 x38_2) x48_3).f0)) ∧ w'.cell? ⟨gb157, 1, none⟩ = some (.string ((rd_T60 (rd_L5 l0_3 x38_2) x48_3).f1)) ∧ w'.cell? ⟨gb157, 2, none⟩ = some (.string ((rd_T60 (rd_L5 l0_3 x38_2) x48_3).f2)) ∧ w'.cell? ⟨gb157, 3, none⟩ = some (.int .i64 ((rd_T60 (rd_L5 l0_3 x38_2) x48_3).f3))) (ds := []) bq4_0 (by kernel_rfl) rfl rfl ⟨(blk_cell BK157.out 0).trans rfl, (blk_cell BK157.out 1).trans rfl, (blk_cell BK157.out 2).trans rfl, (blk_cell BK157.out 3).trans rfl⟩ (fun hHeld => ?_); refine with_tabW spec_GoodVersion.tab12 spec_GoodVersion.bits12 (fun HT_ HW_ => ?_)
                 generalize w51.drew = w52 at HO_3 BK151 BK157 HB hHeld ⊢; refine take_ (i := 0) (N := some 53) (v := ?_) (a' := ?_) bq4_1 rfl rfl (take_ofW HT_.out HW_.out (by kernel_rfl)) (fun _ _ _ h => h) (Or.inl ⟨by rfl, ?_⟩) hHeld ?_ ?_; rotate_left; · rintro w' ⟨s0, s1, s2, s3⟩; go_simp; with_reducible rfl
                 rotate_left; · simp only [Act.put, sq4_a, sq4_b, sq4_c, i64_w, i32_w]; rfl
                 refine one_ (i := 1) (N := some 54) bq4_2 rfl rfl (one_of HT_.out (by kernel_rfl)) (by decide) (fun K hK => ?_); refine goes_ Try.func29 (by kernel_rfl) rfl #[.agg #[.int .i64 ((rd_T60 (rd_L5 l0_3 x38_2) x48_3).f0), .string ((rd_T60 (rd_L5 l0_3 x38_2) x48_3).f1), .string ((rd_T60 (rd_L5 l0_3 x38_2) x48_3).f2), .int .i64 ((rd_T60 (rd_L5 l0_3 x38_2) x48_3).f3)]] (by rfl) rfl rfl (by (try simp only [List.map_toArray, List.map_cons, List.map_nil]); first | done | rfl | (simp only [List.length_drop, List.length_take]; rfl)) ?_; (with_reducible refine (spec_l9Meta.calls ((rd_T60 (rd_L5 l0_3 x38_2) x48_3).f0) ((rd_T60 (rd_L5 l0_3 x38_2) x48_3).f1) ((rd_T60 (rd_L5 l0_3 x38_2) x48_3).f2) ((rd_T60 (rd_L5 l0_3 x38_2) x48_3).f3) false _ A27.out).mono ?_); rintro e w53 ⟨rfl, hb⟩; refine ⟨_, rfl, ?_⟩; have n0_ := Aside0.mk (Kd.R_below (by (with_reducible repeat (first | apply Kd.R_alloc | apply Kd.R_drewN | apply Kd.R_drew)); exact HO_3.out) hb); have n1_ := Aside0.mk (blk_below (g := gb151) (o := .cells #[.int .i64 a0_0, .int .i64 a0_1, .int .i64 a0_2, .slice (some ad155) l0_3.length c0_3] 29 (0, 0)) (by (with_reducible repeat (first | refine blk_drewN ?_ _ | refine blk_drew ?_ | refine blk_alloc ?_ _)); exact BK151.out) hb); have n2_ := Aside0.mk (blk_below (g := gb157) (o := .cells #[.int .i64 ((rd_T60 (rd_L5 l0_3 x38_2) x48_3).f0), .string ((rd_T60 (rd_L5 l0_3 x38_2) x48_3).f1), .string ((rd_T60 (rd_L5 l0_3 x38_2) x48_3).f2), .int .i64 ((rd_T60 (rd_L5 l0_3 x38_2) x48_3).f3)] 60 (0, 0)) (by (with_reducible repeat (first | refine blk_drewN ?_ _ | refine blk_drew ?_ | refine blk_alloc ?_ _)); exact BK157.out) hb); have n3_ := Aside0.mk (below_step (by repeat (first | (with_reducible first | exact HB.out | apply below_alloc | apply pw_below_drewN | apply below_drew1 | refine below_set ?_ GE151.out | refine below_set ?_ GE157.out) | exact HB.out)) hb); clear HO_3; clear BK151; clear BK157; clear HB; have HO_3 := n0_; have BK151 := n1_; have BK157 := n2_; have HB := n3_; clear n0_ n1_ n2_ n3_; (try clear hb); (try clear hb2); (try clear hk); (try clear hi); refine hK.out _ _ ⟨(blk_cell BK157.out 0).trans rfl, (blk_cell BK157.out 1).trans rfl, (blk_cell BK157.out 2).trans rfl, (blk_cell BK157.out 3).trans rfl⟩ (fun hHeld => ?_); clear hK K; refine norm_ (a' := ?_) ?_ ?_; rotate_left
                 ·show Act.put _ (some 54) _ = _
                  simp only [Act.put, sq4_a, sq4_b, sq4_c, i64_w, i32_w]; rfl
                 refine pure_ (i := 2) (N := some 55) (v := ?_) (a' := ?_) bq4_3 rfl rfl (any_of HT_.out (by kernel_rfl)) (fun _ _ _ h => h) (Or.inl ⟨by rfl, ?_⟩) ?_ ?_; rotate_left; · intro w'; go_simp; with_reducible rfl
                 rotate_left; · simp only [Act.put, sq4_a, sq4_b, sq4_c, i64_w, i32_w]; rfl
                 refine pure_ (i := 3) (N := some 56) (v := ?_) (a' := ?_) bq4_4 rfl rfl (any_of HT_.out (by kernel_rfl)) (fun _ _ _ h => h) (Or.inl ⟨by rfl, ?_⟩) ?_ ?_; rotate_left; · intro w'; go_simp; with_reducible rfl
                 rotate_left; · simp only [Act.put, sq4_a, sq4_b, sq4_c, i64_w, i32_w]; rfl
                 refine pure_ (i := 4) (N := some 57) (v := undef) (a' := ?_) bq4_5 rfl rfl (any_of HT_.out (by kernel_rfl)) (fun _ _ _ h => h) (Or.inr ⟨by rfl, rfl⟩) ?_ ?_; rotate_left; · simp only [Act.put, sq4_a, sq4_b, sq4_c, i64_w, i32_w]; rfl
                 refine pure_ (i := 5) (N := some 58) (v := undef) (a' := ?_) bq4_39 rfl rfl (any_of HT_.out (by kernel_rfl)) (fun _ _ _ h => h) (Or.inr ⟨by rfl, rfl⟩) ?_ ?_; rotate_left; · simp only [Act.put, sq4_a, sq4_b, sq4_c, i64_w, i32_w]; rfl
                 refine pure_ (i := 6) (N := some 59) (v := undef) (a' := ?_) bq4_7 rfl rfl (any_of HT_.out (by kernel_rfl)) (fun _ _ _ h => h) (Or.inr ⟨by rfl, rfl⟩) ?_ ?_; rotate_left; · simp only [Act.put, sq4_a, sq4_b, sq4_c, i64_w, i32_w]; rfl
                 refine pure_ (i := 7) (N := some 60) (v := undef) (a' := ?_) bq4_8 rfl rfl (any_of HT_.out (by kernel_rfl)) (fun _ _ _ h => h) (Or.inr ⟨by rfl, rfl⟩) ?_ ?_; rotate_left; · simp only [Act.put, sq4_a, sq4_b, sq4_c, i64_w, i32_w]; rfl
                 refine pure_ (i := 8) (N := some 61) (v := undef) (a' := ?_) bq4_9 rfl rfl (any_of HT_.out (by kernel_rfl)) (fun _ _ _ h => h) (Or.inr ⟨by rfl, rfl⟩) ?_ ?_; rotate_left; · simp only [Act.put, sq4_a, sq4_b, sq4_c, i64_w, i32_w]; rfl
                 refine pure_ (i := 9) (N := some 62) (v := ?_) (a' := ?_) bq4_10 rfl rfl (any_of HT_.out (by kernel_rfl)) (fun _ _ _ h => h) (Or.inl ⟨by rfl, ?_⟩) ?_ ?_; rotate_left; · intro w'; go_simp; with_reducible rfl
                 rotate_left; · simp only [Act.put, sq4_a, sq4_b, sq4_c, i64_w, i32_w]; rfl
                 refine pure_ (i := 10) (N := some 63) (v := ?_) (a' := ?_) bq4_11 rfl rfl (any_of HT_.out (by kernel_rfl)) (fun _ _ _ h => h) (Or.inl ⟨by rfl, ?_⟩) ?_ ?_; rotate_left; · intro w'; go_simp; with_reducible rfl
                 rotate_left; · simp only [Act.put, sq4_a, sq4_b, sq4_c, i64_w, i32_w]; rfl
                 refine pure_ (i := 11) (N := some 64) (v := undef) (a' := ?_) bq4_12 rfl rfl (any_of HT_.out (by kernel_rfl)) (fun _ _ _ h => h) (Or.inr ⟨by rfl, rfl⟩) ?_ ?_; rotate_left; · simp only [Act.put, sq4_a, sq4_b, sq4_c, i64_w, i32_w]; rfl
                 refine pure_ (i := 12) (N := some 65) (v := undef) (a' := ?_) bq4_13 rfl rfl (any_of HT_.out (by kernel_rfl)) (fun _ _ _ h => h) (Or.inr ⟨by rfl, rfl⟩) ?_ ?_; rotate_left; · simp only [Act.put, sq4_a, sq4_b, sq4_c, i64_w, i32_w]; rfl
                 refine pure_ (i := 13) (N := some 66) (v := undef) (a' := ?_) bq4_14 rfl rfl (any_of HT_.out (by kernel_rfl)) (fun _ _ _ h => h) (Or.inr ⟨by rfl, rfl⟩) ?_ ?_; rotate_left; · simp only [Act.put, sq4_a, sq4_b, sq4_c, i64_w, i32_w]; rfl
                 refine pure_ (i := 14) (N := some 67) (v := undef) (a' := ?_) bq4_15 rfl rfl (any_of HT_.out (by kernel_rfl)) (fun _ _ _ h => h) (Or.inr ⟨by rfl, rfl⟩) ?_ ?_; rotate_left; · simp only [Act.put, sq4_a, sq4_b, sq4_c, i64_w, i32_w]; rfl
                 refine pure_ (i := 15) (N := some 68) (v := undef) (a' := ?_) bq4_16 rfl rfl (any_of HT_.out (by kernel_rfl)) (fun _ _ _ h => h) (Or.inr ⟨by rfl, rfl⟩) ?_ ?_; rotate_left; · simp only [Act.put, sq4_a, sq4_b, sq4_c, i64_w, i32_w]; rfl
                 refine pure_ (i := 16) (N := some 69) (v := ?_) (a' := ?_) bq4_17 rfl rfl (any_of HT_.out (by kernel_rfl)) (fun _ _ _ h => h) (Or.inl ⟨by rfl, ?_⟩) ?_ ?_; rotate_left; · intro w'; go_simp; with_reducible rfl
                 rotate_left; · simp only [Act.put, sq4_a, sq4_b, sq4_c, i64_w, i32_w]; rfl
                 refine pure_ (i := 17) (N := some 70) (v := ?_) (a' := ?_) bq4_18 rfl rfl (any_of HT_.out (by kernel_rfl)) (fun _ _ _ h => h) (Or.inl ⟨by rfl, ?_⟩) ?_ ?_; rotate_left; · intro w'; go_simp; with_reducible rfl
                 rotate_left; · simp only [Act.put, sq4_a, sq4_b, sq4_c, i64_w, i32_w]; rfl
                 refine pure_ (i := 18) (N := some 71) (v := undef) (a' := ?_) bq4_19 rfl rfl (any_of HT_.out (by kernel_rfl)) (fun _ _ _ h => h) (Or.inr ⟨by rfl, rfl⟩) ?_ ?_; rotate_left; · simp only [Act.put, sq4_a, sq4_b, sq4_c, i64_w, i32_w]; rfl
                 refine pure_ (i := 19) (N := some 72) (v := undef) (a' := ?_) bq4_20 rfl rfl (any_of HT_.out (by kernel_rfl)) (fun _ _ _ h => h) (Or.inr ⟨by rfl, rfl⟩) ?_ ?_; rotate_left; · simp only [Act.put, sq4_a, sq4_b, sq4_c, i64_w, i32_w]; rfl
                 refine pure_ (i := 20) (N := some 73) (v := undef) (a' := ?_) bq4_21 rfl rfl (any_of HT_.out (by kernel_rfl)) (fun _ _ _ h => h) (Or.inr ⟨by rfl, rfl⟩) ?_ ?_; rotate_left; · simp only [Act.put, sq4_a, sq4_b, sq4_c, i64_w, i32_w]; rfl
                 refine pure_ (i := 21) (N := some 74) (v := undef) (a' := ?_) bq4_22 rfl rfl (any_of HT_.out (by kernel_rfl)) (fun _ _ _ h => h) (Or.inr ⟨by rfl, rfl⟩) ?_ ?_; rotate_left; · simp only [Act.put, sq4_a, sq4_b, sq4_c, i64_w, i32_w]; rfl
                 refine pure_ (i := 22) (N := some 75) (v := undef) (a' := ?_) bq4_23 rfl rfl (any_of HT_.out (by kernel_rfl)) (fun _ _ _ h => h) (Or.inr ⟨by rfl, rfl⟩) ?_ ?_; rotate_left; · simp only [Act.put, sq4_a, sq4_b, sq4_c, i64_w, i32_w]; rfl
                 refine pure_ (i := 23) (N := some 76) (v := undef) (a' := ?_) bq4_24 rfl rfl (any_of HT_.out (by kernel_rfl)) (fun _ _ _ h => h) (Or.inr ⟨by rfl, rfl⟩) ?_ ?_; rotate_left; · simp only [Act.put, sq4_a, sq4_b, sq4_c, i64_w, i32_w]; rfl
                 refine pure_ (i := 24) (N := some 77) (v := undef) (a' := ?_) bq4_25 rfl rfl (any_of HT_.out (by kernel_rfl)) (fun _ _ _ h => h) (Or.inr ⟨by rfl, rfl⟩) ?_ ?_; rotate_left; · simp only [Act.put, sq4_a, sq4_b, sq4_c, i64_w, i32_w]; rfl
                 refine pure_ (i := 25) (N := some 78) (v := undef) (a' := ?_) bq4_26 rfl rfl (any_of HT_.out (by kernel_rfl)) (fun _ _ _ h => h) (Or.inr ⟨by rfl, rfl⟩) ?_ ?_; rotate_left; · simp only [Act.put, sq4_a, sq4_b, sq4_c, i64_w, i32_w]; rfl
                 refine pure_ (i := 26) (N := some 79) (v := undef) (a' := ?_) bq4_27 rfl rfl (any_of HT_.out (by kernel_rfl)) (fun _ _ _ h => h) (Or.inr ⟨by rfl, rfl⟩) ?_ ?_; rotate_left; · simp only [Act.put, sq4_a, sq4_b, sq4_c, i64_w, i32_w]; rfl
                 refine pure_ (i := 27) (N := some 80) (v := undef) (a' := ?_) bq4_28 rfl rfl (any_of HT_.out (by kernel_rfl)) (fun _ _ _ h => h) (Or.inr ⟨by rfl, rfl⟩) ?_ ?_; rotate_left; · simp only [Act.put, sq4_a, sq4_b, sq4_c, i64_w, i32_w]; rfl
                 refine pure_ (i := 28) (N := some 81) (v := undef) (a' := ?_) bq4_29 rfl rfl (any_of HT_.out (by kernel_rfl)) (fun _ _ _ h => h) (Or.inr ⟨by rfl, rfl⟩) ?_ ?_; rotate_left; · simp only [Act.put, sq4_a, sq4_b, sq4_c, i64_w, i32_w]; rfl
                 refine pure_ (i := 29) (N := some 82) (v := undef) (a' := ?_) bq4_30 rfl rfl (any_of HT_.out (by kernel_rfl)) (fun _ _ _ h => h) (Or.inr ⟨by rfl, rfl⟩) ?_ ?_; rotate_left; · simp only [Act.put, sq4_a, sq4_b, sq4_c, i64_w, i32_w]; rfl
                 refine pure_ (i := 30) (N := some 83) (v := undef) (a' := ?_) bq4_31 rfl rfl (any_of HT_.out (by kernel_rfl)) (fun _ _ _ h => h) (Or.inr ⟨by rfl, rfl⟩) ?_ ?_; rotate_left; · simp only [Act.put, sq4_a, sq4_b, sq4_c, i64_w, i32_w]; rfl
                 refine pure_ (i := 31) (N := some 84) (v := undef) (a' := ?_) bq4_32 rfl rfl (any_of HT_.out (by kernel_rfl)) (fun _ _ _ h => h) (Or.inr ⟨by rfl, rfl⟩) ?_ ?_; rotate_left; · simp only [Act.put, sq4_a, sq4_b, sq4_c, i64_w, i32_w]; rfl
                 refine pure_ (i := 32) (N := some 85) (v := undef) (a' := ?_) bq4_33 rfl rfl (any_of HT_.out (by kernel_rfl)) (fun _ _ _ h => h) (Or.inr ⟨by rfl, rfl⟩) ?_ ?_; rotate_left; · simp only [Act.put, sq4_a, sq4_b, sq4_c, i64_w, i32_w]; rfl
                 refine pure_ (i := 33) (N := some 86) (v := undef) (a' := ?_) bq4_34 rfl rfl (any_of HT_.out (by kernel_rfl)) (fun _ _ _ h => h) (Or.inr ⟨by rfl, rfl⟩) ?_ ?_; rotate_left; · simp only [Act.put, sq4_a, sq4_b, sq4_c, i64_w, i32_w]; rfl
                 refine pure_ (i := 34) (N := some 87) (v := undef) (a' := ?_) bq4_35 rfl rfl (any_of HT_.out (by kernel_rfl)) (fun _ _ _ h => h) (Or.inr ⟨by rfl, rfl⟩) ?_ ?_; rotate_left; · simp only [Act.put, sq4_a, sq4_b, sq4_c, i64_w, i32_w]; rfl
                 refine pure_ (i := 35) (N := some 88) (v := ?_) (a' := ?_) bq4_36 rfl rfl (any_of HT_.out (by kernel_rfl)) (fun _ _ _ h => h) (Or.inl ⟨by rfl, ?_⟩) ?_ ?_; rotate_left; · intro w'; go_simp; with_reducible rfl
                 rotate_left; · simp only [Act.put, sq4_a, sq4_b, sq4_c, i64_w, i32_w]; rfl
                 refine done_ (done_of HT_.out (by kernel_rfl)) ?_
                 try go_wp2
                 go_meet
                 case rel => exact ⟨_, (true), (by first | rfl | (simp; done) | (simp [*]; done)), H', ⟨by have := HJ1.out; have := HK2.out; have := HK3.out; first | omega | exact Nat.le_refl _⟩, ⟨by (with_reducible repeat (first | apply Kd.R_alloc | apply Kd.R_drewN | apply Kd.R_drew)); exact HO_3.out⟩, ⟨by (with_reducible repeat (first | refine blk_drewN ?_ _ | refine blk_drew ?_ | refine blk_alloc ?_ _)); exact BK151.out⟩, ⟨by (with_reducible repeat (first | refine blk_drewN ?_ _ | refine blk_drew ?_ | refine blk_alloc ?_ _)); exact BK157.out⟩, ⟨by repeat (first | (with_reducible first | exact HB.out | apply below_alloc | apply pw_below_drewN | apply below_drew1 | refine below_set ?_ GE151.out | refine below_set ?_ GE157.out) | exact HB.out)⟩⟩
               case rest =>
                clear HC23
                try clear c2
                try clear p2
                try clear c3
                try clear c28
                try clear c29
                try clear c37
                try clear c37b0
                obtain ⟨kq, x88_22, rfl, HA, HJ22, HO_3, BK151, BK157, HB⟩ := hcut
                cases kq with
                | zero => exact absurd HA.out (by simp [spec_GoodVersion.j3])
                | succ kj22 =>
                 have H := HA.out; clear HA; simp only [spec_GoodVersion.j3] at H
                 by_cases c54 : x88_22 = true
                 ·subst c54
                  have H1 : (some false) = some r := by rw [if_pos rfl] at H; exact H
                  clear H; have H := H1; clear H1; obtain rfl := Option.some.inj H
                  go_wp2
                  go_ret
                  exact ⟨by first | rfl | (simp [errW_none, errW_some] <;> rfl) | (simp [*, errW_none, errW_some] <;> rfl), by repeat (first | (with_reducible first | exact HB.out | apply below_alloc | apply pw_below_drewN | apply below_drew1 | refine below_set ?_ GE151.out | refine below_set ?_ GE157.out) | exact HB.out)⟩
                 ·replace c54 := Bool.eq_false_iff.mpr c54
                  subst c54
                  have H1 : (spec_GoodVersion.l2 kj22 x3_3 x38_2 (rd_L5 l0_3 x38_2) l0_3 (l0_3.length : Int) x38_2 (rd_L5 l0_3 x38_2) ((rd_L5 l0_3 x38_2).length : Int) x48_3 x3_3 (x3_3.length : Int) 0 a0_0 a0_1 a0_2 l0_3 ((rd_T60 (rd_L5 l0_3 x38_2) x48_3).f0) ((rd_T60 (rd_L5 l0_3 x38_2) x48_3).f1) ((rd_T60 (rd_L5 l0_3 x38_2) x48_3).f2) ((rd_T60 (rd_L5 l0_3 x38_2) x48_3).f3)) = some r := by rw [if_neg (show ¬ (false = true) by decide)] at H; exact H
                  clear H; have H := H1; clear H1; have H' := Aside0.mk H; clear H; obtain ⟨Ao55, co55, eo55⟩ := Kd.R_slice HO_3.out; subst eo55
                  go_wp2
                  go_loopg [91] kj22 (fun kq v91 w' => ∃ (x91_5 : Int), v91 = .int .i64 x91_5 ∧ Aside0 (spec_GoodVersion.l2 kq x3_3 x38_2 (rd_L5 l0_3 x38_2) l0_3 (l0_3.length : Int) x38_2 (rd_L5 l0_3 x38_2) ((rd_L5 l0_3 x38_2).length : Int) x48_3 x3_3 (x3_3.length : Int) x91_5 a0_0 a0_1 a0_2 l0_3 ((rd_T60 (rd_L5 l0_3 x38_2) x48_3).f0) ((rd_T60 (rd_L5 l0_3 x38_2) x48_3).f1) ((rd_T60 (rd_L5 l0_3 x38_2) x48_3).f2) ((rd_T60 (rd_L5 l0_3 x38_2) x48_3).f3) = some r) ∧ Aside0 (kq ≤ kj22) ∧ Aside0 (Kd.R (Kd.int .i64) 3 w' w.heap.size (fun _ => True) (.slice Ao55 x3_3.length co55) x3_3) ∧ Aside0 (Kd.R (Kd.int .i64) 3 w' w.heap.size (fun _ => True) (.slice Ao55 x3_3.length co55) x3_3) ∧ Aside0 (w'.heap[gb151]? = some (.cells #[.int .i64 a0_0, .int .i64 a0_1, .int .i64 a0_2, (.slice (some ad155) l0_3.length c0_3)] 29 (0, 0))) ∧ Aside0 (w'.heap[gb157]? = some (.cells #[.int .i64 ((rd_T60 (rd_L5 l0_3 x38_2) x48_3).f0), .string ((rd_T60 (rd_L5 l0_3 x38_2) x48_3).f1), .string ((rd_T60 (rd_L5 l0_3 x38_2) x48_3).f2), .int .i64 ((rd_T60 (rd_L5 l0_3 x38_2) x48_3).f3)] 60 (0, 0))) ∧ Aside0 (Below w.heap.size w w'))
                  case atStart => exact ⟨(0), (by first | rfl | (simp; done) | (simp [*]; done)), H', ⟨Nat.le_refl _⟩, ⟨by (with_reducible repeat (first | apply Kd.R_alloc | apply Kd.R_drewN | apply Kd.R_drew)); exact HO_3.out⟩, ⟨by (with_reducible repeat (first | apply Kd.R_alloc | apply Kd.R_drewN | apply Kd.R_drew)); exact HO_3.out⟩, ⟨by (with_reducible repeat (first | refine blk_drewN ?_ _ | refine blk_drew ?_ | refine blk_alloc ?_ _)); exact BK151.out⟩, ⟨by (with_reducible repeat (first | refine blk_drewN ?_ _ | refine blk_drew ?_ | refine blk_alloc ?_ _)); exact BK157.out⟩, ⟨by repeat (first | (with_reducible first | exact HB.out | apply below_alloc | apply pw_below_drewN | apply below_drew1 | refine below_set ?_ GE151.out | refine below_set ?_ GE157.out) | exact HB.out)⟩⟩
                  case round =>
                   clear H'
                   try clear c2
                   try clear p2
                   try clear c3
                   try clear c5
                   try clear c28
                   try clear c29
                   try clear c37
                   try clear c37b0
                   try clear c54
                   try clear p2
                   obtain ⟨x91_5, rfl, HA, HK5, HO_3, HO_89, BK151, BK157, HB⟩ := hrel
                   cases gk with
                   | zero => exact absurd HA.out (by simp [spec_GoodVersion.l2])
                   | succ k5 =>
                    have H := HA.out; clear HA; simp only [spec_GoodVersion.l2] at H
                    by_cases c56 : x91_5 < (x3_3.length : Int)
                    ·rw [if_pos c56] at H
                     have c56b0 : decide (x91_5 < (x3_3.length : Int)) = true := decide_eq_true c56; clear c56
                     by_cases c57 : 0 ≤ x91_5
                     ·rw [if_pos c57] at H
                      have c57b0 : decide (0 ≤ x91_5) = true := decide_eq_true c57; clear c57
                      by_cases c58 : x91_5 < (x3_3.length : Int)
                      ·rw [if_pos c58] at H
                       have c58b0 : decide (x91_5 < (x3_3.length : Int)) = true := decide_eq_true c58; clear c58
                       by_cases c59 : (rd x3_3 x91_5) = ((rd_T60 (rd_L5 l0_3 x38_2) x48_3).f0)
                       ·rw [if_pos c59] at H
                        have c59b0 : ((rd x3_3 x91_5) == ((rd_T60 (rd_L5 l0_3 x38_2) x48_3).f0)) = true := beq_iff_eq.mpr c59; have c59b1 : ((rd x3_3 x91_5) != ((rd_T60 (rd_L5 l0_3 x38_2) x48_3).f0)) = false := bne_eq_false_iff_eq.mpr c59; clear c59; obtain rfl := Option.some.inj H; have p160 : 0 ≤ (x91_5 : Int) := of_decide_eq_true (by first | (with_reducible assumption) | assumption); have q160 : x91_5 < (x3_3.length : Int) := of_decide_eq_true (by first | (with_reducible assumption) | assumption); obtain ⟨ad160, e160, hx160_0⟩ := Kd.at_int (Kd.R_reads' HO_89.out).2.2 x91_5 p160 q160
                        cases e160
                        replace p160 := eq_true p160; replace q160 := eq_true q160; have hnb60 := NB157_151.out; have hnc60 := NB151_157.out; have hcz61_0 : wr.cell? ⟨gb157, 0, none⟩ = some (.int .i64 ((rd_T60 (rd_L5 l0_3 x38_2) x48_3).f0)) := (blk_cell BK157.out 0).trans rfl; have hcz61_1 : wr.cell? ⟨gb157, 1, none⟩ = some (.string ((rd_T60 (rd_L5 l0_3 x38_2) x48_3).f1)) := (blk_cell BK157.out 1).trans rfl; have hcz61_2 : wr.cell? ⟨gb157, 2, none⟩ = some (.string ((rd_T60 (rd_L5 l0_3 x38_2) x48_3).f2)) := (blk_cell BK157.out 2).trans rfl; have hcz61_3 : wr.cell? ⟨gb157, 3, none⟩ = some (.int .i64 ((rd_T60 (rd_L5 l0_3 x38_2) x48_3).f3)) := (blk_cell BK157.out 3).trans rfl; have hfz61_0 := blk_frozen BK157.out 0; have hfz61_1 := blk_frozen BK157.out 1; have hfz61_2 := blk_frozen BK157.out 2; have hfz61_3 := blk_frozen BK157.out 3
                        go_wp2
                        go_ret
                        exact ⟨by first | rfl | (simp [errW_none, errW_some] <;> rfl) | (simp [*, errW_none, errW_some] <;> rfl), by repeat (first | (with_reducible first | exact HB.out | apply below_alloc | apply pw_below_drewN | apply below_drew1 | refine below_set ?_ GE151.out | refine below_set ?_ GE157.out) | exact HB.out)⟩
                       ·rw [if_neg c59] at H
                        have c59b0 : ((rd x3_3 x91_5) == ((rd_T60 (rd_L5 l0_3 x38_2) x48_3).f0)) = false := beq_eq_false_iff_ne.mpr c59; have c59b1 : ((rd x3_3 x91_5) != ((rd_T60 (rd_L5 l0_3 x38_2) x48_3).f0)) = true := bne_iff_ne.mpr c59; have H' := Aside0.mk H; clear H; have p160 : 0 ≤ (x91_5 : Int) := of_decide_eq_true (by first | (with_reducible assumption) | assumption); have q160 : x91_5 < (x3_3.length : Int) := of_decide_eq_true (by first | (with_reducible assumption) | assumption); obtain ⟨ad160, e160, hx160_0⟩ := Kd.at_int (Kd.R_reads' HO_89.out).2.2 x91_5 p160 q160
                        cases e160
                        replace p160 := eq_true p160; replace q160 := eq_true q160; have hnb62 := NB157_151.out; have hnc62 := NB151_157.out; have hcz63_0 : wr.cell? ⟨gb157, 0, none⟩ = some (.int .i64 ((rd_T60 (rd_L5 l0_3 x38_2) x48_3).f0)) := (blk_cell BK157.out 0).trans rfl; have hcz63_1 : wr.cell? ⟨gb157, 1, none⟩ = some (.string ((rd_T60 (rd_L5 l0_3 x38_2) x48_3).f1)) := (blk_cell BK157.out 1).trans rfl; have hcz63_2 : wr.cell? ⟨gb157, 2, none⟩ = some (.string ((rd_T60 (rd_L5 l0_3 x38_2) x48_3).f2)) := (blk_cell BK157.out 2).trans rfl; have hcz63_3 : wr.cell? ⟨gb157, 3, none⟩ = some (.int .i64 ((rd_T60 (rd_L5 l0_3 x38_2) x48_3).f3)) := (blk_cell BK157.out 3).trans rfl; have hfz63_0 := blk_frozen BK157.out 0; have hfz63_1 := blk_frozen BK157.out 1; have hfz63_2 := blk_frozen BK157.out 2; have hfz63_3 := blk_frozen BK157.out 3
                        go_wp2
                        go_roundg k5
                        case measure => have := HJ1.out; have := HK2.out; have := HK3.out; have := HJ22.out; have := HK5.out; omega
                        case rel => exact ⟨(wrap64 (x91_5 + 1)), (by first | rfl | (simp; done) | (simp [*]; done)), H', ⟨by have := HJ1.out; have := HK2.out; have := HK3.out; have := HJ22.out; have := HK5.out; omega⟩, ⟨by (with_reducible repeat (first | apply Kd.R_alloc | apply Kd.R_drewN | apply Kd.R_drew)); exact HO_3.out⟩, ⟨by (with_reducible repeat (first | apply Kd.R_alloc | apply Kd.R_drewN | apply Kd.R_drew)); exact HO_89.out⟩, ⟨by (with_reducible repeat (first | refine blk_drewN ?_ _ | refine blk_drew ?_ | refine blk_alloc ?_ _)); exact BK151.out⟩, ⟨by (with_reducible repeat (first | refine blk_drewN ?_ _ | refine blk_drew ?_ | refine blk_alloc ?_ _)); exact BK157.out⟩, ⟨by repeat (first | (with_reducible first | exact HB.out | apply below_alloc | apply pw_below_drewN | apply below_drew1 | refine below_set ?_ GE151.out | refine below_set ?_ GE157.out) | exact HB.out)⟩⟩
                      ·rw [if_neg c58] at H; exact absurd H (by simp)
                     ·rw [if_neg c57] at H; exact absurd H (by simp)
                    ·rw [if_neg c56] at H
                     have c56b0 : decide (x91_5 < (x3_3.length : Int)) = false := decide_eq_false c56; clear c56
                     by_cases c64 : x3_3.length < 17592186044416
                     ·rw [if_pos c64] at H
                      have LMc64 := Aside0.mk c64; clear c64; obtain ⟨y161, hy161⟩ : ∃ y_ : List Int, y_ = (x3_3 ++ [((rd_T60 (rd_L5 l0_3 x38_2) x48_3).f0)]) := ⟨_, rfl⟩
                      replace H : (spec_GoodVersion.l1 k5 y161 x38_2 (rd_L5 l0_3 x38_2) l0_3 (l0_3.length : Int) x38_2 (rd_L5 l0_3 x38_2) ((rd_L5 l0_3 x38_2).length : Int) (wrap64 (x48_3 + 1)) a0_0 a0_1 a0_2 l0_3) = some r := by first | (rw [hy161]; with_reducible exact H) | (have H2_ := (Option.bind_some _ _).symm.trans H; rw [hy161]; with_reducible exact H2_) | (have H2_ := (Option.bind_some _ _).symm.trans H; with_reducible exact H2_) | with_reducible exact H | (rw [hy161]; exact H) | exact H
                      have Ny161 := Aside0.mk hy161; clear hy161; have H' := Aside0.mk H; clear H; have hnb65 := NB157_151.out; have hnc65 := NB151_157.out; have hcz66_0 : wr.cell? ⟨gb157, 0, none⟩ = some (.int .i64 ((rd_T60 (rd_L5 l0_3 x38_2) x48_3).f0)) := (blk_cell BK157.out 0).trans rfl; have hcz66_1 : wr.cell? ⟨gb157, 1, none⟩ = some (.string ((rd_T60 (rd_L5 l0_3 x38_2) x48_3).f1)) := (blk_cell BK157.out 1).trans rfl; have hcz66_2 : wr.cell? ⟨gb157, 2, none⟩ = some (.string ((rd_T60 (rd_L5 l0_3 x38_2) x48_3).f2)) := (blk_cell BK157.out 2).trans rfl; have hcz66_3 : wr.cell? ⟨gb157, 3, none⟩ = some (.int .i64 ((rd_T60 (rd_L5 l0_3 x38_2) x48_3).f3)) := (blk_cell BK157.out 3).trans rfl; have hfz66_0 := blk_frozen BK157.out 0; have hfz66_1 := blk_frozen BK157.out 1; have hfz66_2 := blk_frozen BK157.out 2; have hfz66_3 := blk_frozen BK157.out 3
                      go_wp2_with (first | ((with_reducible refine gate_builtin (b := .append) (xs := #[.tmp 100, .tmp 103]) rfl ?_); (try (refine gate_guard (by rfl) ?_; dsimp only)); at_builtin; refine Kd.R_append (Kd.int .i64) (w0 := w) w.heap.size rfl (.tmp 100) (.tmp 103) 33 3 (.int .i64 0) 8 rfl Try.underlying33 info3 rfl (by decide) (by omega) (.slice Ao55 x3_3.length co55) x3_3 ((rd_T60 (rd_L5 l0_3 x38_2) x48_3).f0) [.int .i64 ((rd_T60 (rd_L5 l0_3 x38_2) x48_3).f0)] (fun _ => True) (fun _ => False) rfl rfl ?aP (fun _ hk => hk.elim) ?aF ?aO ?aB ?aS ?aL ?_; (case aP => exact rfl); (case aB => exact (by repeat (first | (with_reducible first | exact HB.out | apply below_alloc | apply pw_below_drewN | apply below_drew1 | refine below_set ?_ GE151.out | refine below_set ?_ GE157.out) | exact HB.out))); (case aF => exact (fun _ _ => trivial)); (case aO => exact (by (with_reducible repeat (first | apply Kd.R_alloc | apply Kd.R_drewN | apply Kd.R_drew)); exact HO_3.out)); (case aS => exact (below_size (by repeat (first | (with_reducible first | exact HB.out | apply below_alloc | apply pw_below_drewN | apply below_drew1 | refine below_set ?_ GE151.out | refine below_set ?_ GE157.out) | exact HB.out)))); (case aL => have := LMc64.out; omega); intro v162 w67 ho hb hg hat; rw [← Ny161.out] at ho; have n0_ := Aside0.mk (blk_grown (g := gb151) (o := .cells #[.int .i64 a0_0, .int .i64 a0_1, .int .i64 a0_2, .slice (some ad155) l0_3.length c0_3] 29 (0, 0)) (by (with_reducible repeat (first | refine blk_drewN ?_ _ | refine blk_drew ?_ | refine blk_alloc ?_ _)); exact BK151.out) hg (Kd.R_ne HO_3.out BK151.out (by decide))); have n1_ := Aside0.mk (blk_grown (g := gb157) (o := .cells #[.int .i64 ((rd_T60 (rd_L5 l0_3 x38_2) x48_3).f0), .string ((rd_T60 (rd_L5 l0_3 x38_2) x48_3).f1), .string ((rd_T60 (rd_L5 l0_3 x38_2) x48_3).f2), .int .i64 ((rd_T60 (rd_L5 l0_3 x38_2) x48_3).f3)] 60 (0, 0)) (by (with_reducible repeat (first | refine blk_drewN ?_ _ | refine blk_drew ?_ | refine blk_alloc ?_ _)); exact BK157.out) hg (Kd.R_ne HO_3.out BK157.out (by decide))); have n2_ := Aside0.mk (hb); have n3_ := Aside0.mk (ho); clear BK151; clear BK157; clear HB; clear HO_3; have BK151 := n0_; have BK157 := n1_; have HB := n2_; have HO163 := n3_; clear n0_ n1_ n2_ n3_; clear ho hb hg hat))
                      go_roundg k5
                      case measure => have := HJ1.out; have := HK2.out; have := HK3.out; have := HJ22.out; have := HK5.out; omega
                      case rel => exact ⟨(y161), (wrap64 (x48_3 + 1)), (by first | rfl | (simp; done) | (simp [*]; done)), H', ⟨by have := HJ1.out; have := HK2.out; have := HK3.out; have := HJ22.out; have := HK5.out; omega⟩, ⟨by (with_reducible repeat (first | apply Kd.R_alloc | apply Kd.R_drewN | apply Kd.R_drew)); exact HO163.out⟩, ⟨by (with_reducible repeat (first | refine blk_drewN ?_ _ | refine blk_drew ?_ | refine blk_alloc ?_ _)); exact BK151.out⟩, ⟨by repeat (first | (with_reducible first | exact HB.out | apply below_alloc | apply pw_below_drewN | apply below_drew1 | refine below_set ?_ GE151.out | refine below_set ?_ GE157.out) | exact HB.out)⟩⟩
                     ·rw [if_neg c64] at H; exact absurd H (by simp)
              ·rw [if_neg c22] at H; exact absurd H (by simp)
             ·rw [if_neg c21] at H; exact absurd H (by simp)
            ·rw [if_neg c20] at H
             have c20b0 : decide (x48_3 < ((rd_L5 l0_3 x38_2).length : Int)) = false := decide_eq_false c20; clear c20; have H' := Aside0.mk H; clear H
             go_wp2
             go_roundg k3
             case measure => have := HJ1.out; have := HK2.out; have := HK3.out; omega
             case rel => exact ⟨(x3_3), (wrap64 (x38_2 + 1)), (by first | rfl | (simp; done) | (simp [*]; done)), H', ⟨by have := HJ1.out; have := HK2.out; have := HK3.out; omega⟩, ⟨by (with_reducible repeat (first | apply Kd.R_alloc | apply Kd.R_drewN | apply Kd.R_drew)); exact HO_3.out⟩, ⟨by (with_reducible repeat (first | refine blk_drewN ?_ _ | refine blk_drew ?_ | refine blk_alloc ?_ _)); exact BK151.out⟩, ⟨by repeat (first | (with_reducible first | exact HB.out | apply below_alloc | apply pw_below_drewN | apply below_drew1 | refine below_set ?_ GE151.out) | exact HB.out)⟩⟩
        ·rw [if_neg c18] at H; exact absurd H (by simp)
       ·rw [if_neg c17] at H; exact absurd H (by simp)
      ·rw [if_neg c16] at H
       have c16b0 : decide (x38_2 < (l0_3.length : Int)) = false := decide_eq_false c16; clear c16; obtain rfl := Option.some.inj H
       go_wp2
       go_ret
       exact ⟨by first | rfl | (simp [errW_none, errW_some] <;> rfl) | (simp [*, errW_none, errW_some] <;> rfl), by repeat (first | (with_reducible first | exact HB.out | apply below_alloc | apply pw_below_drewN | apply below_drew1 | refine below_set ?_ GE151.out) | exact HB.out)⟩

end Go.Proofs.Ytefconminjiapaa.PFnExactFilesOf
