-- Written for this claim by a program of this session: a scratch copy of the kit's print with patches of this session.
import Derived.Test.YtolpkckaijeahaaPFnExactLogOfx0
import Derived.Test.YtolpkckaijeahaaPFnExactLogOfx1
namespace Go.Proofs.Ytolpkckaijeahaa.PFnExactLogOf
open Go.RowKit Go.Proofs.YtolpkckaijeahaaW.PrintWords Go.Proofs.YtolpkckaijeahaaW.PrintLast Go.Proofs.YtolpkckaijeahaaW.PrintMore
attribute [local go_sem] max2_int min2_int max_two min_two max_three min_three max_four min_four hw_string_geq hw_string_gtr hw_string_leq   -- for this text's walks alone
set_option linter.unusedVariables false
set_option linter.unusedSimpArgs false

/-! ### laws_eqByteSS: function 58 -/
def laws_eqByteSS.l0 : Nat → List (List Int) → List (List Int) → Int → Option (Bool)
  | 0, _, _, _ => none
  | k + 1, x0, x1, x5 => if x5 < (x0.length : Int) then (if 0 ≤ x5 then (if x5 < (x1.length : Int) then ((laws_eqByteS.f k (rd_L1 x0 x5) (rd_L1 x1 x5)).bind fun t320 => (if t320 = true then (laws_eqByteSS.l0 k x0 x1 (wrap64 (x5 + 1))) else (some false))) else (none)) else (none)) else (some true)
def laws_eqByteSS.f (k : Nat) (l0 : List (List Int)) (l1 : List (List Int)) : Option (Bool) := if (l0.length : Int) = (l1.length : Int) then (laws_eqByteSS.l0 k l0 l1 0) else (some false)
theorem laws_eqByteSS.mono_l : ∀ k, (∀ y0 y1 y2, LeO (laws_eqByteSS.l0 k y0 y1 y2) (laws_eqByteSS.l0 (k + 1) y0 y1 y2))
  | 0 => fun _ _ _ r h => by simp [laws_eqByteSS.l0] at h
  | k + 1 => by
    have ih0 := laws_eqByteSS.mono_l k
    · intro y0 y1 y2
      unfold laws_eqByteSS.l0
      repeat' first
      | (with_reducible exact ih0 _ _ _)
      | (with_reducible exact laws_eqByteS.mono _ _ _)
      | (with_reducible exact LeO.refl _)
      | (with_reducible exact LeO.none _)
      | (with_reducible refine LeO.ite ?_ ?_)
      | (with_reducible refine LeO.bind ?_ (fun _ => ?_))
      | exact ih0 _ _ _
      | exact laws_eqByteS.mono _ _ _
      | exact LeO.none _
      | refine LeO.ite ?_ ?_
      | refine LeO.bind ?_ (fun _ => ?_)
theorem laws_eqByteSS.mono : ∀ a0 a1 k, LeO (laws_eqByteSS.f k a0 a1) (laws_eqByteSS.f (k + 1) a0 a1) := by
  intro a0 a1 k
  have ih0 := laws_eqByteSS.mono_l k
  unfold laws_eqByteSS.f
  repeat' first
      | (with_reducible exact ih0 _ _ _)
      | (with_reducible exact laws_eqByteS.mono _ _ _)
      | (with_reducible exact LeO.refl _)
      | (with_reducible exact LeO.none _)
      | (with_reducible refine LeO.ite ?_ ?_)
      | (with_reducible refine LeO.bind ?_ (fun _ => ?_))
      | exact ih0 _ _ _
      | exact laws_eqByteS.mono _ _ _
      | exact LeO.none _
      | refine LeO.ite ?_ ?_
      | refine LeO.bind ?_ (fun _ => ?_)
set_option maxHeartbeats 8000000 in
set_option maxRecDepth 100000 in
theorem laws_eqByteSS.calls (k : Nat) (A0 : Option Addr) (c0 : Nat) (l0 : List (List Int)) (A1 : Option Addr) (c1 : Nat) (l1 : List (List Int)) (r : Bool) (w : World) (hr0 : Kd.C (Kd.slice 5 (Kd.int .u8)) w A0 l0.length l0) (hc0 : l0.length ≤ c0) (hr1 : Kd.C (Kd.slice 5 (Kd.int .u8)) w A1 l1.length l1) (hc1 : l1.length ≤ c1) (h : laws_eqByteSS.f k l0 l1 = some r) :
    Calls Try.prog 58 #[.slice A0 l0.length c0, .slice A1 l1.length c1] w fun e w' => e = .returned (.bool r) ∧ Drawn0 w w' := by
  have HR0 := Aside0.mk hr0
  have HC0 := Aside0.mk hc0
  clear hr0 hc0
  have HR1 := Aside0.mk hr1
  have HC1 := Aside0.mk hc1
  clear hr1 hc1
  have H : (if (l0.length : Int) = (l1.length : Int) then (laws_eqByteSS.l0 k l0 l1 0) else (some false)) = some r := h
  clear h
  by_cases c3 : (l0.length : Int) = (l1.length : Int)
  · rw [if_pos c3] at H
    have c3b0 : ((l0.length : Int) == (l1.length : Int)) = true := beq_iff_eq.mpr c3
    have c3b1 : ((l0.length : Int) != (l1.length : Int)) = false := bne_eq_false_iff_eq.mpr c3
    have c3b2 : (l0.length == l1.length) = true := by first | simpa using c3 | (simp at c3 ⊢; omega)
    clear c3
    have H' := Aside0.mk H
    clear H
    go_enter Try.func58, Try.ntmps58
    go_wp2
    repeat (go_quiet (fail); try go_wp2)
    go_loopg [5] k (fun kq v5 w' => ∃ (x5_1 : Int), v5 = .int .i64 x5_1 ∧ Aside0 (laws_eqByteSS.l0 kq l0 l1 x5_1 = some r) ∧ Aside0 (kq ≤ k) ∧ Drawn0 w w')
    case atStart => exact ⟨(0), (by first | rfl | (simp; done) | (simp [*]; done)), H', ⟨Nat.le_refl _⟩, by repeat (first | exact Drawn0.refl _ | apply Drawn0.step)⟩
    case round =>
      clear H'
      try clear c1
      try clear p2
      try clear c3
      try clear c3b0
      try clear c3b1
      try clear c3b2
      obtain ⟨x5_1, rfl, HA, HK1, ⟨m1, rfl⟩⟩ := hrel
      cases gk with
      | zero => exact absurd HA.out (by simp [laws_eqByteSS.l0])
      | succ k1 =>
        have H := HA.out
        clear HA
        simp only [laws_eqByteSS.l0] at H
        by_cases c4 : x5_1 < (l0.length : Int)
        · rw [if_pos c4] at H
          have c4b0 : decide (x5_1 < (l0.length : Int)) = true := decide_eq_true c4
          clear c4
          by_cases c5 : 0 ≤ x5_1
          · rw [if_pos c5] at H
            have c5b0 : decide (0 ≤ x5_1) = true := decide_eq_true c5
            clear c5
            by_cases c6 : x5_1 < (l1.length : Int)
            · rw [if_pos c6] at H
              have c6b0 : decide (x5_1 < (l1.length : Int)) = true := decide_eq_true c6
              clear c6
              replace H := Option.bind_eq_some_iff.mp H
              obtain ⟨t320, A70, H⟩ := H
              replace H : (if t320 = true then (laws_eqByteSS.l0 k1 l0 l1 (wrap64 (x5_1 + 1))) else (some false)) = some r := H
              have A7 := Aside0.mk A70
              clear A70
              by_cases c8 : t320 = true
              · subst c8
                have H1 : (laws_eqByteSS.l0 k1 l0 l1 (wrap64 (x5_1 + 1))) = some r := by rw [if_pos rfl] at H; exact H
                clear H
                have H := H1
                clear H1
                have H' := Aside0.mk H
                clear H
                have p318 : 0 ≤ (x5_1 : Int) := of_decide_eq_true (by first | (with_reducible assumption) | assumption)
                have q318 : x5_1 < (l0.length : Int) := of_decide_eq_true (by first | (with_reducible assumption) | assumption)
                obtain ⟨ad318, A318_0, c318_0, e318, hx318_0, hl318_0, hi318_0⟩ := at_L1 HR0.out x5_1 p318 q318
                cases e318
                have HR318_0 := Aside0.mk hi318_0
                have HC318_0 := Aside0.mk hl318_0
                clear hi318_0 hl318_0
                replace p318 := eq_true p318
                replace q318 := eq_true q318
                have p319 : 0 ≤ (x5_1 : Int) := of_decide_eq_true (by first | (with_reducible assumption) | assumption)
                have q319 : x5_1 < (l1.length : Int) := of_decide_eq_true (by first | (with_reducible assumption) | assumption)
                obtain ⟨ad319, A319_0, c319_0, e319, hx319_0, hl319_0, hi319_0⟩ := at_L1 HR1.out x5_1 p319 q319
                cases e319
                have HR319_0 := Aside0.mk hi319_0
                have HC319_0 := Aside0.mk hl319_0
                clear hi319_0 hl319_0
                replace p319 := eq_true p319
                replace q319 := eq_true q319
                go_wp2_with (first | (go_at_call 34; (with_reducible refine (laws_eqByteS.calls k1 _ _ (rd_L1 l0 x5_1) _ _ (rd_L1 l1 x5_1) true _ ?side1 ?side2 ?side3 ?side4 A7.out).mono ?_); (case side1 => repeat (first | exact HR318_0.out | (with_reducible refine Kd.C_alloc ?_ _) | (with_reducible refine Kd.C_drewN ?_ _) | (with_reducible refine Kd.C_drew ?_))); (case side2 => exact HC318_0.out); (case side3 => repeat (first | exact HR319_0.out | (with_reducible refine Kd.C_alloc ?_ _) | (with_reducible refine Kd.C_drewN ?_ _) | (with_reducible refine Kd.C_drew ?_))); (case side4 => exact HC319_0.out); rintro e w' ⟨rfl, ⟨nd, rfl⟩⟩; (try first | exact ⟨rfl, _, World.drewN_drewN _ _ _⟩ | exact ⟨rfl, _, Eq.trans (World.drewN_drewN _ _ _) (congrArg (World.drewN _) (Nat.add_assoc _ _ _))⟩)))
                repeat (go_quiet (first | (go_at_call 34; (with_reducible refine (laws_eqByteS.calls k1 _ _ (rd_L1 l0 x5_1) _ _ (rd_L1 l1 x5_1) true _ ?side1 ?side2 ?side3 ?side4 A7.out).mono ?_); (case side1 => repeat (first | exact HR318_0.out | (with_reducible refine Kd.C_alloc ?_ _) | (with_reducible refine Kd.C_drewN ?_ _) | (with_reducible refine Kd.C_drew ?_))); (case side2 => exact HC318_0.out); (case side3 => repeat (first | exact HR319_0.out | (with_reducible refine Kd.C_alloc ?_ _) | (with_reducible refine Kd.C_drewN ?_ _) | (with_reducible refine Kd.C_drew ?_))); (case side4 => exact HC319_0.out); rintro e w' ⟨rfl, ⟨nd, rfl⟩⟩; (try first | exact ⟨rfl, _, World.drewN_drewN _ _ _⟩ | exact ⟨rfl, _, Eq.trans (World.drewN_drewN _ _ _) (congrArg (World.drewN _) (Nat.add_assoc _ _ _))⟩))); try go_wp2_with (first | (go_at_call 34; (with_reducible refine (laws_eqByteS.calls k1 _ _ (rd_L1 l0 x5_1) _ _ (rd_L1 l1 x5_1) true _ ?side1 ?side2 ?side3 ?side4 A7.out).mono ?_); (case side1 => repeat (first | exact HR318_0.out | (with_reducible refine Kd.C_alloc ?_ _) | (with_reducible refine Kd.C_drewN ?_ _) | (with_reducible refine Kd.C_drew ?_))); (case side2 => exact HC318_0.out); (case side3 => repeat (first | exact HR319_0.out | (with_reducible refine Kd.C_alloc ?_ _) | (with_reducible refine Kd.C_drewN ?_ _) | (with_reducible refine Kd.C_drew ?_))); (case side4 => exact HC319_0.out); rintro e w' ⟨rfl, ⟨nd, rfl⟩⟩; (try first | exact ⟨rfl, _, World.drewN_drewN _ _ _⟩ | exact ⟨rfl, _, Eq.trans (World.drewN_drewN _ _ _) (congrArg (World.drewN _) (Nat.add_assoc _ _ _))⟩))))
                go_roundg k1
                case measure => have := HK1.out; omega
                case rel => exact ⟨(wrap64 (x5_1 + 1)), (by first | rfl | (simp; done) | (simp [*]; done)), H', ⟨by have := HK1.out; omega⟩, by repeat (first | exact Drawn0.refl _ | apply Drawn0.step)⟩
              · replace c8 := Bool.eq_false_iff.mpr c8
                subst c8
                have H1 : (some false) = some r := by rw [if_neg (show ¬ (false = true) by decide)] at H; exact H
                clear H
                have H := H1
                clear H1
                obtain rfl := Option.some.inj H
                have p318 : 0 ≤ (x5_1 : Int) := of_decide_eq_true (by first | (with_reducible assumption) | assumption)
                have q318 : x5_1 < (l0.length : Int) := of_decide_eq_true (by first | (with_reducible assumption) | assumption)
                obtain ⟨ad318, A318_0, c318_0, e318, hx318_0, hl318_0, hi318_0⟩ := at_L1 HR0.out x5_1 p318 q318
                cases e318
                have HR318_0 := Aside0.mk hi318_0
                have HC318_0 := Aside0.mk hl318_0
                clear hi318_0 hl318_0
                replace p318 := eq_true p318
                replace q318 := eq_true q318
                have p319 : 0 ≤ (x5_1 : Int) := of_decide_eq_true (by first | (with_reducible assumption) | assumption)
                have q319 : x5_1 < (l1.length : Int) := of_decide_eq_true (by first | (with_reducible assumption) | assumption)
                obtain ⟨ad319, A319_0, c319_0, e319, hx319_0, hl319_0, hi319_0⟩ := at_L1 HR1.out x5_1 p319 q319
                cases e319
                have HR319_0 := Aside0.mk hi319_0
                have HC319_0 := Aside0.mk hl319_0
                clear hi319_0 hl319_0
                replace p319 := eq_true p319
                replace q319 := eq_true q319
                go_wp2_with (first | (go_at_call 34; (with_reducible refine (laws_eqByteS.calls k1 _ _ (rd_L1 l0 x5_1) _ _ (rd_L1 l1 x5_1) false _ ?side1 ?side2 ?side3 ?side4 A7.out).mono ?_); (case side1 => repeat (first | exact HR318_0.out | (with_reducible refine Kd.C_alloc ?_ _) | (with_reducible refine Kd.C_drewN ?_ _) | (with_reducible refine Kd.C_drew ?_))); (case side2 => exact HC318_0.out); (case side3 => repeat (first | exact HR319_0.out | (with_reducible refine Kd.C_alloc ?_ _) | (with_reducible refine Kd.C_drewN ?_ _) | (with_reducible refine Kd.C_drew ?_))); (case side4 => exact HC319_0.out); rintro e w' ⟨rfl, ⟨nd, rfl⟩⟩; (try first | exact ⟨rfl, _, World.drewN_drewN _ _ _⟩ | exact ⟨rfl, _, Eq.trans (World.drewN_drewN _ _ _) (congrArg (World.drewN _) (Nat.add_assoc _ _ _))⟩)))
                repeat (go_quiet (first | (go_at_call 34; (with_reducible refine (laws_eqByteS.calls k1 _ _ (rd_L1 l0 x5_1) _ _ (rd_L1 l1 x5_1) false _ ?side1 ?side2 ?side3 ?side4 A7.out).mono ?_); (case side1 => repeat (first | exact HR318_0.out | (with_reducible refine Kd.C_alloc ?_ _) | (with_reducible refine Kd.C_drewN ?_ _) | (with_reducible refine Kd.C_drew ?_))); (case side2 => exact HC318_0.out); (case side3 => repeat (first | exact HR319_0.out | (with_reducible refine Kd.C_alloc ?_ _) | (with_reducible refine Kd.C_drewN ?_ _) | (with_reducible refine Kd.C_drew ?_))); (case side4 => exact HC319_0.out); rintro e w' ⟨rfl, ⟨nd, rfl⟩⟩; (try first | exact ⟨rfl, _, World.drewN_drewN _ _ _⟩ | exact ⟨rfl, _, Eq.trans (World.drewN_drewN _ _ _) (congrArg (World.drewN _) (Nat.add_assoc _ _ _))⟩))); try go_wp2_with (first | (go_at_call 34; (with_reducible refine (laws_eqByteS.calls k1 _ _ (rd_L1 l0 x5_1) _ _ (rd_L1 l1 x5_1) false _ ?side1 ?side2 ?side3 ?side4 A7.out).mono ?_); (case side1 => repeat (first | exact HR318_0.out | (with_reducible refine Kd.C_alloc ?_ _) | (with_reducible refine Kd.C_drewN ?_ _) | (with_reducible refine Kd.C_drew ?_))); (case side2 => exact HC318_0.out); (case side3 => repeat (first | exact HR319_0.out | (with_reducible refine Kd.C_alloc ?_ _) | (with_reducible refine Kd.C_drewN ?_ _) | (with_reducible refine Kd.C_drew ?_))); (case side4 => exact HC319_0.out); rintro e w' ⟨rfl, ⟨nd, rfl⟩⟩; (try first | exact ⟨rfl, _, World.drewN_drewN _ _ _⟩ | exact ⟨rfl, _, Eq.trans (World.drewN_drewN _ _ _) (congrArg (World.drewN _) (Nat.add_assoc _ _ _))⟩))))
                go_ret
                exact ⟨by first | rfl | (simp; done) | (simp [*]; done), by repeat (first | exact Drawn0.refl _ | apply Drawn0.step)⟩
            · rw [if_neg c6] at H
              exact absurd H (by simp)
          · rw [if_neg c5] at H
            exact absurd H (by simp)
        · rw [if_neg c4] at H
          have c4b0 : decide (x5_1 < (l0.length : Int)) = false := decide_eq_false c4
          clear c4
          obtain rfl := Option.some.inj H
          go_wp2
          repeat (go_quiet (fail); try go_wp2)
          go_ret
          exact ⟨by first | rfl | (simp; done) | (simp [*]; done), by repeat (first | exact Drawn0.refl _ | apply Drawn0.step)⟩
  · rw [if_neg c3] at H
    have c3b0 : ((l0.length : Int) == (l1.length : Int)) = false := beq_eq_false_iff_ne.mpr c3
    have c3b1 : ((l0.length : Int) != (l1.length : Int)) = true := bne_iff_ne.mpr c3
    have c3b2 : (l0.length == l1.length) = false := by first | simpa using c3 | (simp at c3 ⊢; omega)
    obtain rfl := Option.some.inj H
    go_enter Try.func58, Try.ntmps58
    go_wp2
    repeat (go_quiet (fail); try go_wp2)
    go_ret
    exact ⟨by first | rfl | (simp; done) | (simp [*]; done), by repeat (first | exact Drawn0.refl _ | apply Drawn0.step)⟩

/-! ### laws_markByteSS: function 59, by hand -/
def laws_markByteSS.pre (l0 : List (List Int)) (kk : Nat) : Nat := ((l0.take kk).map List.length).sum
def laws_markByteSS.f (l0 : List (List Int)) (a1 : Int) : Option (Int) := if 0 ≤ a1 ∧ a1 + ((l0.map List.length).sum : Nat) ≤ 4611686018427387904 ∧ l0.length ≤ 4611686018427387904 then some (a1 + ((l0.map List.length).sum : Nat)) else none
/-- Behind stores into blocks of S: nothing else has changed, and no block has changed its form. -/
def laws_markByteSS.Wr (S : Nat → Prop) (w w' : World) : Prop := w'.os = w.os ∧ w'.tape = w.tape ∧ w'.output = w.output ∧ w'.heap.size = w.heap.size ∧ (∀ i, ¬ S i → w'.heap[i]? = w.heap[i]?) ∧ ∀ (i : Nat) (cur : Array Value) (t : TypeId), w.heap[i]? = some (.cells cur t (0, 0)) → ∃ cur' : Array Value, cur'.size = cur.size ∧ w'.heap[i]? = some (.cells cur' t (0, 0))
theorem laws_markByteSS.Wr.refl (S : Nat → Prop) (w : World) : laws_markByteSS.Wr S w w := ⟨rfl, rfl, rfl, rfl, fun _ _ => rfl, fun _ cur _ h => ⟨cur, rfl, h⟩⟩
theorem laws_markByteSS.Wr.drewN {S : Nat → Prop} {w w' : World} (h : laws_markByteSS.Wr S w w') (n : Nat) : laws_markByteSS.Wr S w (w'.drewN n) := h
theorem laws_markByteSS.Wr.drew {S : Nat → Prop} {w w' : World} (h : laws_markByteSS.Wr S w w') : laws_markByteSS.Wr S w w'.drew := h
theorem laws_markByteSS.Wr.trans {S : Nat → Prop} {w w1 w2 : World} (h : laws_markByteSS.Wr S w w1) (k : laws_markByteSS.Wr S w1 w2) : laws_markByteSS.Wr S w w2 := by
  obtain ⟨a1, a2, a3, a4, a5, a6⟩ := h
  obtain ⟨b1, b2, b3, b4, b5, b6⟩ := k
  refine ⟨b1.trans a1, b2.trans a2, b3.trans a3, b4.trans a4, fun i hi => (b5 i hi).trans (a5 i hi), fun i cur t hc => ?_⟩
  obtain ⟨c1, e1, h1⟩ := a6 i cur t hc
  obtain ⟨c2, e2, h2⟩ := b6 i c1 t h1
  exact ⟨c2, e2.trans e1, h2⟩
theorem laws_markByteSS.Wr.setCell {S : Nat → Prop} {w w' : World} (h : laws_markByteSS.Wr S w w') {g : Nat} (hg : S g) (j : Nat) (u : Value) : laws_markByteSS.Wr S w (w'.setCell ⟨g, j, none⟩ u) := by
  obtain ⟨a1, a2, a3, a4, a5, a6⟩ := h
  refine ⟨a1, a2, a3, ?_, fun i hi => ?_, fun i cur t hc => ?_⟩
  · show (w'.heap.modify g _).size = _
    rw [Array.size_modify]; exact a4
  · refine Eq.trans ?_ (a5 i hi)
    show (w'.heap.modify g _)[i]? = _
    rw [Array.getElem?_modify, if_neg (show ¬ g = i from fun e => hi (by rw [← e]; exact hg))]
  · obtain ⟨c1, e1, h1⟩ := a6 i cur t hc
    by_cases e : i = g
    · subst e
      exact ⟨_, by rw [Array.size_setIfInBounds]; exact e1, blk_set h1 j u⟩
    · exact ⟨c1, e1, blk_far h1 e u⟩
theorem laws_markByteSS.Wr.mono {S S' : Nat → Prop} {w w' : World} (h : laws_markByteSS.Wr S w w') (hs : ∀ k, S k → S' k) : laws_markByteSS.Wr S' w w' := ⟨h.1, h.2.1, h.2.2.1, h.2.2.2.1, fun i hi => h.2.2.2.2.1 i (fun hk => hi (hs i hk)), h.2.2.2.2.2⟩
set_option maxHeartbeats 8000000 in
set_option maxRecDepth 100000 in
/-- a row is marked, whatever stands in it -/
theorem laws_markByteSS.inner (g n cap : Nat) (cur : Array Value) (a1 : Int) (w : World) (hh : w.heap[g]? = some (.cells cur 5 (0, 0))) (hn : n ≤ cur.size) (h0 : 0 ≤ a1) (h1 : a1 + n ≤ 4611686018427387904) :
    Calls Try.prog 35 #[.slice (some ⟨g, 0, none⟩) n cap, .int .i64 a1] w fun e w' => e = .returned (.int .i64 (a1 + n)) ∧ laws_markByteSS.Wr (fun k => k = g) w w' := by
  have HH := Aside0.mk hh
  clear hh
  go_enter Try.func35, Try.ntmps35
  go_wp2
  go_loopg [1, 5] n (fun gg v1 v5 w' => ∃ kk : Nat, kk ≤ n ∧ n - kk ≤ gg ∧ v1 = .int .i64 (a1 + kk) ∧ v5 = .int .i64 kk ∧ Aside0 (laws_markByteSS.Wr (fun k => k = g) w w'))
  case atStart => exact ⟨0, Nat.zero_le _, by omega, by simp, rfl, ⟨by repeat (first | exact laws_markByteSS.Wr.refl _ _ | apply laws_markByteSS.Wr.drewN | apply laws_markByteSS.Wr.drew)⟩⟩
  case round =>
    obtain ⟨kk, hkk, hg, rfl, rfl, HW⟩ := hrel
    by_cases hlt : kk < n
    · have hltz : (kk : Int) < (n : Int) := by omega
      obtain ⟨cur', e1, hb⟩ := HW.out.2.2.2.2.2 g cur 5 HH.out
      have hx : wr.cell? ⟨g, kk, none⟩ = some (cur'[kk]'(by omega)) := (blk_cell hb kk).trans (Array.getElem?_eq_getElem (by omega))
      have hf : wr.frozen? ⟨g, kk, none⟩ = false := blk_frozen hb kk
      have hk0 : (0 : Int) ≤ (kk : Int) := by omega
      clear hb
      go_wp2
      go_roundg (n - (kk + 1))
      case measure => omega
      case rel =>
        refine ⟨kk + 1, by omega, by omega, ?_, ?_, ⟨by repeat (first | exact HW.out | apply laws_markByteSS.Wr.drewN | apply laws_markByteSS.Wr.drew | refine laws_markByteSS.Wr.setCell (g := g) ?_ (by exact rfl) _ _)⟩⟩
        · first | (go_num; done) | (simp only [Value.int.injEq, true_and]; first | (rw [i64_w]; unfold wrap64; omega) | (unfold wrap64; omega) | omega)
        · go_num
    · have hltz : ¬ (kk : Int) < (n : Int) := by omega
      have : kk = n := by omega
      subst this
      go_wp2
      go_ret
      exact ⟨by first | rfl | (simp; done), by repeat (first | exact HW.out | apply laws_markByteSS.Wr.drewN | apply laws_markByteSS.Wr.drew)⟩
set_option maxHeartbeats 8000000 in
set_option maxRecDepth 100000 in
theorem laws_markByteSS.inner0 (a1 : Int) (w : World) :
    Calls Try.prog 35 #[.slice none 0 0, .int .i64 a1] w fun e w' => e = .returned (.int .i64 a1) ∧ Drawn0 w w' := by
  go_enter Try.func35, Try.ntmps35
  go_wp2
  go_loopg [1, 5] 0 (fun _ v1 v5 w' => v1 = .int .i64 a1 ∧ v5 = .int .i64 0 ∧ Drawn0 w w')
  case atStart => exact ⟨rfl, rfl, by repeat (first | exact Drawn0.refl _ | apply Drawn0.step)⟩
  case round =>
    obtain ⟨rfl, rfl, ⟨m1, rfl⟩⟩ := hrel
    go_wp2
    go_ret
    exact ⟨by first | rfl | (simp; done), by repeat (first | exact Drawn0.refl _ | apply Drawn0.step)⟩
set_option maxHeartbeats 8000000 in
set_option maxRecDepth 100000 in
theorem laws_markByteSS.calls (P0_ : Nat → Prop) (u9000_ : Value) (l0 : List (List Int)) (a1 : Int) (r1 : Int) (w0 w : World) (hB : Below w0.heap.size w0 w) (ho0 : Kd.R (Kd.slice 5 (Kd.int .u8)) 22 w w0.heap.size P0_ u9000_ l0) (h : laws_markByteSS.f l0 a1 = some (r1)) :
    Calls Try.prog 59 #[u9000_, .int .i64 a1] w fun e w' => e = .returned (.int .i64 r1) ∧ Below w0.heap.size w0 w' ∧ Kept w w' (fun k_ => P0_ k_) := by
  unfold laws_markByteSS.f at h
  by_cases hc : 0 ≤ a1 ∧ a1 + ((l0.map List.length).sum : Nat) ≤ 4611686018427387904 ∧ l0.length ≤ 4611686018427387904
  · rw [if_pos hc] at h
    obtain rfl := Option.some.inj h
    clear h
    obtain ⟨ha0, hsum, hlen⟩ := hc
    obtain ⟨Ao, co, eo⟩ := Kd.R_slice ho0
    subst eo
    have HO := Aside0.mk ho0
    have fin : ∀ (S : Nat → Prop) (w' : World), (∀ k, S k → P0_ k ∧ w0.heap.size ≤ k) → laws_markByteSS.Wr S w w' → Below w0.heap.size w0 w' ∧ Kept w w' (fun k_ => P0_ k_) := by
      rintro S w' hS ⟨b1, b2, b3, b4, b5, _⟩
      exact ⟨⟨b1.trans hB.os, b2.trans hB.tape, b3.trans hB.output, by rw [b4]; exact hB.size, fun i hi => (b5 i (fun hs => by have := (hS i hs).2; omega)).trans (hB.block i hi)⟩, ⟨Nat.le_of_eq b4.symm, fun i _ hn => b5 i (fun hs => hn (hS i hs).1)⟩⟩
    have FIN := Aside0.mk fin
    clear fin ho0
    go_enter Try.func59, Try.ntmps59
    go_wp2
    go_loopg [1, 5] l0.length (fun gg v1 v5 w' => ∃ kk : Nat, kk ≤ l0.length ∧ l0.length - kk ≤ gg ∧ v1 = .int .i64 (a1 + (laws_markByteSS.pre l0 kk : Nat)) ∧ v5 = .int .i64 kk ∧ Aside0 (laws_markByteSS.Wr (fun k => (P0_ k ∧ w0.heap.size ≤ k) ∧ some k ≠ (Value.slice Ao l0.length co).ownBlock) w w'))
    case atStart => exact ⟨0, Nat.zero_le _, by omega, by simp [laws_markByteSS.pre], rfl, ⟨by repeat (first | exact laws_markByteSS.Wr.refl _ _ | apply laws_markByteSS.Wr.drewN | apply laws_markByteSS.Wr.drew)⟩⟩
    case round =>
      obtain ⟨kk, hkk, hg, rfl, rfl, HW⟩ := hrel
      by_cases hlt : kk < l0.length
      · have hltz : (kk : Int) < (l0.length : Int) := by omega
        have hk0 : (0 : Int) ≤ (kk : Int) := by omega
        obtain ⟨go, cap, eo, hgb, hgl, cells, hcells⟩ := Kd.R_form HO.out (by omega)
        injection eo with ea en ec
        subst ea
        subst ec
        clear en
        obtain ⟨c, _, ⟨v, rfl, hR⟩, hcc, _⟩ := Kd.R_elem HO.out ([] : (List Int)) (kk : Int) hk0 hltz
        have hz : l0.getD ((kk : Int).toNat) ([] : (List Int)) = l0[kk]'hlt := by simp [hlt]
        rw [hz] at hR
        have hx0 : w.cell? ⟨go, kk, none⟩ = some v := by
          have := hcc 0 v rfl
          rw [show ((Kd.slice 5 (Kd.int .u8))).sz = 1 from rfl, Nat.mul_one, Nat.add_zero, Int.toNat_natCast] at this
          exact this
        have hgoS : ¬ ((P0_ go ∧ w0.heap.size ≤ go) ∧ some go ≠ (Value.slice (some ⟨go, 0, none⟩) l0.length co).ownBlock) := fun hs => hs.2 rfl
        have hcells' : wr.heap[go]? = some (.cells cells 22 (0, 0)) := (HW.out.2.2.2.2.1 go hgoS).trans hcells
        have hx : wr.cell? ⟨go, kk, none⟩ = some v := (blk_cell hcells' kk).trans ((blk_cell hcells kk).symm.trans hx0)
        have htk : laws_markByteSS.pre l0 (kk + 1) = laws_markByteSS.pre l0 kk + (l0[kk]'hlt).length := by
          unfold laws_markByteSS.pre
          rw [List.take_succ_eq_append_getElem hlt, List.map_append, List.sum_append]
          simp
        have hle : laws_markByteSS.pre l0 (kk + 1) ≤ (l0.map List.length).sum := by
          unfold laws_markByteSS.pre
          conv => rhs; rw [← List.take_append_drop (kk + 1) l0, List.map_append, List.sum_append]
          omega
        have ho := Kd.own_of_R hR
        clear hcc hx0 hz hcells hcells' hgoS
        obtain ⟨_, ⟨rfl, hn0⟩ | ⟨g, capi, cur, rfl, hbase, hheap, hncap, _, hsize, _⟩⟩ := ho
        · go_wp2_with ((with_reducible refine gate_callee (f := 35) rfl ?_); refine goesL_ (some 17) rfl rfl Try.func35 (by kernel_rfl) rfl #[.slice none 0 0, .int .i64 (a1 + (laws_markByteSS.pre l0 kk : Nat))] rfl (by (try simp only [List.map_toArray, List.map_cons, List.map_nil]); first | done | rfl) ?_; (refine (laws_markByteSS.inner0 _ _).mono ?_); rintro e w7 ⟨rfl, ⟨nd, rfl⟩⟩; refine ⟨_, rfl, ?_⟩)
          go_roundg (l0.length - (kk + 1))
          case measure => omega
          case rel =>
            exact ⟨kk + 1, by omega, by omega, by rw [htk, hn0, Nat.add_zero], by go_num, ⟨by repeat (first | exact HW.out | apply laws_markByteSS.Wr.drewN | apply laws_markByteSS.Wr.drew)⟩⟩
        · have hin : (P0_ g ∧ w0.heap.size ≤ g) ∧ some g ≠ (Value.slice (some ⟨go, 0, none⟩) l0.length co).ownBlock := by
            have hok := hR.1 g rfl
            exact ⟨⟨hok.1, hbase⟩, fun e => hok.2 (by simpa [Value.ownBlock] using e)⟩
          obtain ⟨cur', es, hb'⟩ := HW.out.2.2.2.2.2 g cur 5 hheap
          go_wp2_with ((with_reducible refine gate_callee (f := 35) rfl ?_); refine goesL_ (some 17) rfl rfl Try.func35 (by kernel_rfl) rfl #[.slice (some ⟨g, 0, none⟩) (l0[kk]'hlt).length capi, .int .i64 (a1 + (laws_markByteSS.pre l0 kk : Nat))] rfl (by (try simp only [List.map_toArray, List.map_cons, List.map_nil]); first | done | rfl) ?_; (refine (laws_markByteSS.inner g (l0[kk]'hlt).length capi cur' _ _ (by (with_reducible repeat (first | refine blk_drewN ?_ _ | refine blk_drew ?_)); exact hb') (by omega) (by omega) (by omega)).mono ?_); rintro e w7 ⟨rfl, hw7⟩; refine ⟨_, rfl, ?_⟩; have HW7 := Aside0.mk (laws_markByteSS.Wr.trans (S := (fun k => (P0_ k ∧ w0.heap.size ≤ k) ∧ some k ≠ (Value.slice (some ⟨go, 0, none⟩) l0.length co).ownBlock)) (w := w) (by repeat (first | exact HW.out | apply laws_markByteSS.Wr.drewN | apply laws_markByteSS.Wr.drew)) (laws_markByteSS.Wr.mono hw7 (fun k hk => by rw [hk]; exact hin))); clear hw7)
          go_roundg (l0.length - (kk + 1))
          case measure => omega
          case rel =>
            exact ⟨kk + 1, by omega, by omega, by rw [htk]; first | rfl | (simp; omega) | (congr 1; push_cast; omega), by go_num, ⟨by repeat (first | exact HW7.out | apply laws_markByteSS.Wr.drewN | apply laws_markByteSS.Wr.drew)⟩⟩
      · have hltz : ¬ (kk : Int) < (l0.length : Int) := by omega
        have : kk = l0.length := by omega
        subst this
        have hall : laws_markByteSS.pre l0 l0.length = (l0.map List.length).sum := by unfold laws_markByteSS.pre; rw [List.take_length]
        rw [hall]
        go_wp2
        go_ret
        exact ⟨by first | rfl | (simp; done), (FIN.out (fun k => (P0_ k ∧ w0.heap.size ≤ k) ∧ some k ≠ (Value.slice Ao l0.length co).ownBlock) _ (fun k hk => hk.1) (by repeat (first | exact HW.out | apply laws_markByteSS.Wr.drewN | apply laws_markByteSS.Wr.drew)))⟩
  · rw [if_neg hc] at h
    cases h

end Go.Proofs.Ytolpkckaijeahaa.PFnExactLogOf
