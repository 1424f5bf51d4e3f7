-- Written for this claim by a program of this session: a scratch copy of the kit's print with patches of this session.
import Derived.Test.YtefconminjiapaaPFnExactEditBytesx0
import Derived.Test.YtefconminjiapaaPFnExactEditBytesx6
namespace Go.Proofs.Ytefconminjiapaa.PFnExactEditBytes
open Go.RowKit Go.Proofs.YtefconminjiapaaW.PrintWords Go.Proofs.YtefconminjiapaaW.PrintLast Go.Proofs.YtefconminjiapaaW.PrintMore
attribute [local go_sem] max2_int min2_int max_two min_two max_three min_three max_four min_four hw_string_geq hw_string_gtr hw_string_leq   -- for this text's walks alone
set_option linter.unusedVariables false
set_option linter.unusedSimpArgs false

/-! ### laws_markAddS: function 45, by hand -/
def laws_markAddS.l (k : Nat) : Nat → Int → Option Int
  | 0, a => some a
  | n + 1, a => (laws_markText.f k (wrap64 (wrap64 (a + 1) + 1))).bind fun _ => (laws_markText.f k (wrap64 (wrap64 (wrap64 (a + 1) + 1) + 1))).bind fun _ => laws_markAddS.l k n (wrap64 (wrap64 (wrap64 (wrap64 (wrap64 (a + 1) + 1) + 1) + 1) + 1))
def laws_markAddS.f (k : Nat) (l0 : List (S86)) (a1 : Int) : Option (Int) := if l0.length ≤ 1152921504606846976 then laws_markAddS.l k l0.length a1 else none
theorem laws_markAddS.mono_l (k : Nat) : ∀ (n : Nat) (a : Int), LeO (laws_markAddS.l k n a) (laws_markAddS.l (k + 1) n a)
  | 0, a => LeO.refl _
  | n + 1, a => LeO.bind (laws_markText.mono _ _) (fun _ => LeO.bind (laws_markText.mono _ _) (fun _ => laws_markAddS.mono_l k n _))
theorem laws_markAddS.mono : ∀ l0 a1 k, LeO (laws_markAddS.f k l0 a1) (laws_markAddS.f (k + 1) l0 a1) := by
  intro l0 a1 k
  unfold laws_markAddS.f
  exact LeO.ite (laws_markAddS.mono_l k _ _) (LeO.refl _)
theorem laws_markAddS.set_far {w : World} {g i : Nat} (h : i ≠ g) (j : Nat) (u : Value) : (w.setCell ⟨g, j, none⟩ u).heap[i]? = w.heap[i]? := by
  show (w.heap.modify g _)[i]? = _
  rw [Array.getElem?_modify, if_neg (fun e => h e.symm)]
theorem laws_markAddS.kept_set {w W : World} {S : Nat → Prop} (h : Kept w W S) {g : Nat} (hg : S g) (j : Nat) (u : Value) : Kept w (W.setCell ⟨g, j, none⟩ u) S := by
  refine ⟨?_, fun i hi hn => (laws_markAddS.set_far (fun e => hn (by rw [e]; exact hg)) j u).trans (h.2 i hi hn)⟩
  show w.heap.size ≤ (W.heap.modify g _).size
  rw [Array.size_modify]; exact h.1
set_option maxHeartbeats 8000000 in
set_option maxRecDepth 100000 in
theorem laws_markAddS.calls (k : Nat) (P0_ : Nat → Prop) (u9000_ : Value) (l0 : List (S86)) (a1 : Int) (r1 : Int) (w0 w : World) (hB : Below w0.heap.size w0 w) (ho0 : Kd.R k86 86 w w0.heap.size P0_ u9000_ l0) (h : laws_markAddS.f k l0 a1 = some (r1)) :
    Calls Try.prog 45 #[u9000_, .int .i64 a1] w fun e w' => e = .returned (.int .i64 r1) ∧ Below w0.heap.size w0 w' ∧ Kept w w' (fun k_ => P0_ k_) := by
  unfold laws_markAddS.f at h
  by_cases hlen : l0.length ≤ 1152921504606846976
  · rw [if_pos hlen] at h
    obtain ⟨Ao, co, eo⟩ := Kd.R_slice ho0
    subst eo
    have HO := Aside0.mk ho0
    have HB0 := Aside0.mk hB
    have H' := Aside0.mk h
    clear ho0 h hB
    go_enter Try.func45, Try.ntmps45
    go_wp2
    go_loopg [1, 5] l0.length (fun gg v1 v5 w' => ∃ (kk : Nat) (a : Int), kk ≤ l0.length ∧ l0.length - kk ≤ gg ∧ v1 = .int .i64 a ∧ v5 = .int .i64 kk ∧ Aside0 (laws_markAddS.l k (l0.length - kk) a = some r1) ∧ Aside0 (∀ (go : Nat) (cells : Array Value), Ao = some ⟨go, 0, none⟩ → w.heap[go]? = some (.cells cells 86 (0, 0)) → ∃ cur : Array Value, w'.heap[go]? = some (.cells cur 86 (0, 0)) ∧ cur.size = cells.size) ∧ Aside0 (Kept w w' (fun i => P0_ i ∧ some i = (Value.slice Ao l0.length co).ownBlock)) ∧ Aside0 (Below w0.heap.size w0 w'))
    case atStart => exact ⟨0, a1, Nat.zero_le _, by omega, rfl, rfl, H', ⟨fun go cells _ hc => ⟨cells, hc, rfl⟩⟩, ⟨by repeat (first | exact Kept.refl _ _ | apply Kept.alloc | apply Kept.drewN | apply Kept.drew)⟩, ⟨by repeat (first | exact HB0.out | apply below_alloc | apply pw_below_drewN | apply below_drew1)⟩⟩
    case round =>
      clear H'
      obtain ⟨kk, a, hkk, hg, rfl, rfl, HA, HC0, HW, HB⟩ := hrel
      by_cases hlt : kk < l0.length
      · have hltz : (kk : Int) < (l0.length : Int) := by omega
        have hk0 : (0 : Int) ≤ (kk : Int) := by omega
        have H := HA.out
        clear HA
        rw [show l0.length - kk = (l0.length - (kk + 1)) + 1 by omega] at H
        simp only [laws_markAddS.l] at H
        obtain ⟨t1, ht1, H⟩ := Option.bind_eq_some_iff.mp H
        obtain ⟨t2, ht2, H⟩ := Option.bind_eq_some_iff.mp H
        have HT1 := Aside0.mk ht1
        have HT2 := Aside0.mk ht2
        have H' := Aside0.mk H
        clear ht1 ht2 H
        obtain ⟨go, cap, eo, hgb, hgl, cells, hcells⟩ := Kd.R_form HO.out (by omega)
        injection eo with ea en ec
        subst ea
        subst ec
        clear en
        have hPgo : P0_ go := HO.out.1 go rfl
        obtain ⟨c, hcl, hM, hcc, _⟩ := Kd.R_elem HO.out z86 (kk : Int) hk0 hltz
        have hc5 : c.length = 5 := hcl
        have hlast := hcc 4 (c[4]'(by omega)) (List.getElem?_eq_getElem (by omega))
        rw [show (k86).sz = 5 from rfl, Int.toNat_natCast, blk_cell hcells] at hlast
        have hsz : kk * 5 + 4 < cells.size := (Array.getElem?_eq_some_iff.1 hlast).1
        obtain ⟨cur5, hcu, hcs5⟩ := HC0.out go cells rfl hcells
        have HC5 := Aside0.mk hcu
        have HB5 := HB
        have HW5 := HW
        have hcells2 := Aside0.mk hcells
        have hx5 : wr.cell? ⟨go, kk * 5, none⟩ = some (cur5[kk * 5]'(by omega)) := (blk_cell HC5.out _).trans (Array.getElem?_eq_getElem (by omega))
        have hf5 : wr.frozen? ⟨go, kk * 5, none⟩ = false := blk_frozen HC5.out _
        clear hcc hM hlast hcl hcu HC0 hcells
        obtain ⟨w5, hw5⟩ : ∃ w5, wr = w5 := ⟨_, rfl⟩
        subst hw5
        go_wp2_with (first | ((with_reducible refine gate_store (t := 3) (p := 16) rfl ?_); refine store_event (t := 3) (p := 16) (v := ?vo_1) (w1 := wr.setCell ⟨go, kk * 5, none⟩ (.int .i64 a)) ?hg ?ho ?hn ?hr ?_; (case ho => rfl); (case hg => rfl); (case hn => rfl); (case hr => first | (go_simp; done) | (go_simp; rfl)); intro w6 hw; obtain ⟨cur6, hcu, hcs6⟩ : ∃ c : Array Value, w6.heap[go]? = some (.cells c 86 (0, 0)) ∧ c.size = cells.size := ⟨_, (by rw [hw]; exact blk_set HC5.out _ _), (by rw [Array.size_setIfInBounds]; exact hcs5)⟩; have HC6 := Aside0.mk hcu; have HB6 := Aside0.mk ((by rw [hw]; exact below_set HB5.out hgb) : Below w0.heap.size w0 w6); have HW6 := Aside0.mk ((by rw [hw]; exact laws_markAddS.kept_set HW5.out ⟨hPgo, rfl⟩ _ _) : Kept w w6 (fun i => P0_ i ∧ some i = (Value.slice (some ⟨go, 0, none⟩) l0.length co).ownBlock)); clear hw hcu; have hx6 : w6.cell? ⟨go, kk * 5 + 1, none⟩ = some (cur6[kk * 5 + 1]'(by omega)) := (blk_cell HC6.out _).trans (Array.getElem?_eq_getElem (by omega)); have hf6 : w6.frozen? ⟨go, kk * 5 + 1, none⟩ = false := blk_frozen HC6.out _) | ((with_reducible refine gate_store (t := 3) (p := 24) rfl ?_); refine store_event (t := 3) (p := 24) (v := ?vo_2) (w1 := w6.setCell ⟨go, kk * 5 + 1, none⟩ (.int .i64 (wrap64 (a + 1)))) ?hg ?ho ?hn ?hr ?_; (case ho => rfl); (case hg => rfl); (case hn => rfl); (case hr => first | (go_simp; done) | (go_simp; rfl)); intro w7 hw; obtain ⟨cur7, hcu, hcs7⟩ : ∃ c : Array Value, w7.heap[go]? = some (.cells c 86 (0, 0)) ∧ c.size = cells.size := ⟨_, (by rw [hw]; exact blk_set HC6.out _ _), (by rw [Array.size_setIfInBounds]; exact hcs6)⟩; have HC7 := Aside0.mk hcu; have HB7 := Aside0.mk ((by rw [hw]; exact below_set HB6.out hgb) : Below w0.heap.size w0 w7); have HW7 := Aside0.mk ((by rw [hw]; exact laws_markAddS.kept_set HW6.out ⟨hPgo, rfl⟩ _ _) : Kept w w7 (fun i => P0_ i ∧ some i = (Value.slice (some ⟨go, 0, none⟩) l0.length co).ownBlock)); clear hw hcu) | ((with_reducible refine gate_callee (f := 65) rfl ?_); refine goesL_ (some 30) rfl rfl Try.func65 (by kernel_rfl) rfl #[.int .i64 (wrap64 ((wrap64 (a + 1)) + 1))] rfl (by (try simp only [List.map_toArray, List.map_cons, List.map_nil]); first | done | rfl) ?_; (refine (laws_markText.calls k (wrap64 ((wrap64 (a + 1)) + 1)) t1 _ HT1.out).mono ?_); rintro e w8 ⟨rfl, hb5⟩; refine ⟨_, rfl, ?_⟩; obtain ⟨cur8, hcu, hcs8⟩ : ∃ c : Array Value, w8.heap[go]? = some (.cells c 86 (0, 0)) ∧ c.size = cells.size := ⟨_, blk_below (g := go) (by (with_reducible repeat (first | refine blk_drewN ?_ _ | refine blk_drew ?_)); exact HC7.out) hb5, hcs7⟩; have HC8 := Aside0.mk hcu; have HB8 := Aside0.mk (below_step (by repeat (first | exact HB7.out | apply below_alloc | apply pw_below_drewN | apply below_drew1)) hb5); have HW8 := Aside0.mk (Kept.below (S := (fun i => P0_ i ∧ some i = (Value.slice (some ⟨go, 0, none⟩) l0.length co).ownBlock)) (by repeat (first | exact HW7.out | apply Kept.alloc | apply Kept.drewN | apply Kept.drew)) hb5); clear hb5 hcu; have hx8 : w8.cell? ⟨go, kk * 5 + 2, none⟩ = some (cur8[kk * 5 + 2]'(by omega)) := (blk_cell HC8.out _).trans (Array.getElem?_eq_getElem (by omega)); have hf8 : w8.frozen? ⟨go, kk * 5 + 2, none⟩ = false := blk_frozen HC8.out _) | ((with_reducible refine gate_store (t := 9) (p := 33) rfl ?_); refine store_event (t := 9) (p := 33) (v := ?vo_3) (w1 := w8.setCell ⟨go, kk * 5 + 2, none⟩ (.string t1)) ?hg ?ho ?hn ?hr ?_; (case ho => rfl); (case hg => rfl); (case hn => rfl); (case hr => first | (go_simp; done) | (go_simp; rfl)); intro w9 hw; obtain ⟨cur9, hcu, hcs9⟩ : ∃ c : Array Value, w9.heap[go]? = some (.cells c 86 (0, 0)) ∧ c.size = cells.size := ⟨_, (by rw [hw]; exact blk_set HC8.out _ _), (by rw [Array.size_setIfInBounds]; exact hcs8)⟩; have HC9 := Aside0.mk hcu; have HB9 := Aside0.mk ((by rw [hw]; exact below_set HB8.out hgb) : Below w0.heap.size w0 w9); have HW9 := Aside0.mk ((by rw [hw]; exact laws_markAddS.kept_set HW8.out ⟨hPgo, rfl⟩ _ _) : Kept w w9 (fun i => P0_ i ∧ some i = (Value.slice (some ⟨go, 0, none⟩) l0.length co).ownBlock)); clear hw hcu) | ((with_reducible refine gate_callee (f := 65) rfl ?_); refine goesL_ (some 39) rfl rfl Try.func65 (by kernel_rfl) rfl #[.int .i64 (wrap64 ((wrap64 ((wrap64 (a + 1)) + 1)) + 1))] rfl (by (try simp only [List.map_toArray, List.map_cons, List.map_nil]); first | done | rfl) ?_; (refine (laws_markText.calls k (wrap64 ((wrap64 ((wrap64 (a + 1)) + 1)) + 1)) t2 _ HT2.out).mono ?_); rintro e w10 ⟨rfl, hb5⟩; refine ⟨_, rfl, ?_⟩; obtain ⟨cur10, hcu, hcs10⟩ : ∃ c : Array Value, w10.heap[go]? = some (.cells c 86 (0, 0)) ∧ c.size = cells.size := ⟨_, blk_below (g := go) (by (with_reducible repeat (first | refine blk_drewN ?_ _ | refine blk_drew ?_)); exact HC9.out) hb5, hcs9⟩; have HC10 := Aside0.mk hcu; have HB10 := Aside0.mk (below_step (by repeat (first | exact HB9.out | apply below_alloc | apply pw_below_drewN | apply below_drew1)) hb5); have HW10 := Aside0.mk (Kept.below (S := (fun i => P0_ i ∧ some i = (Value.slice (some ⟨go, 0, none⟩) l0.length co).ownBlock)) (by repeat (first | exact HW9.out | apply Kept.alloc | apply Kept.drewN | apply Kept.drew)) hb5); clear hb5 hcu; have hx10 : w10.cell? ⟨go, kk * 5 + 3, none⟩ = some (cur10[kk * 5 + 3]'(by omega)) := (blk_cell HC10.out _).trans (Array.getElem?_eq_getElem (by omega)); have hf10 : w10.frozen? ⟨go, kk * 5 + 3, none⟩ = false := blk_frozen HC10.out _) | ((with_reducible refine gate_store (t := 9) (p := 42) rfl ?_); refine store_event (t := 9) (p := 42) (v := ?vo_4) (w1 := w10.setCell ⟨go, kk * 5 + 3, none⟩ (.string t2)) ?hg ?ho ?hn ?hr ?_; (case ho => rfl); (case hg => rfl); (case hn => rfl); (case hr => first | (go_simp; done) | (go_simp; rfl)); intro w11 hw; obtain ⟨cur11, hcu, hcs11⟩ : ∃ c : Array Value, w11.heap[go]? = some (.cells c 86 (0, 0)) ∧ c.size = cells.size := ⟨_, (by rw [hw]; exact blk_set HC10.out _ _), (by rw [Array.size_setIfInBounds]; exact hcs10)⟩; have HC11 := Aside0.mk hcu; have HB11 := Aside0.mk ((by rw [hw]; exact below_set HB10.out hgb) : Below w0.heap.size w0 w11); have HW11 := Aside0.mk ((by rw [hw]; exact laws_markAddS.kept_set HW10.out ⟨hPgo, rfl⟩ _ _) : Kept w w11 (fun i => P0_ i ∧ some i = (Value.slice (some ⟨go, 0, none⟩) l0.length co).ownBlock)); clear hw hcu; have hx11 : w11.cell? ⟨go, kk * 5 + 4, none⟩ = some (cur11[kk * 5 + 4]'(by omega)) := (blk_cell HC11.out _).trans (Array.getElem?_eq_getElem (by omega)); have hf11 : w11.frozen? ⟨go, kk * 5 + 4, none⟩ = false := blk_frozen HC11.out _) | ((with_reducible refine gate_store (t := 3) (p := 50) rfl ?_); refine store_event (t := 3) (p := 50) (v := ?vo_5) (w1 := w11.setCell ⟨go, kk * 5 + 4, none⟩ (.int .i64 (wrap64 ((wrap64 ((wrap64 ((wrap64 (a + 1)) + 1)) + 1)) + 1)))) ?hg ?ho ?hn ?hr ?_; (case ho => rfl); (case hg => rfl); (case hn => rfl); (case hr => first | (go_simp; done) | (go_simp; rfl)); intro w12 hw; obtain ⟨cur12, hcu, hcs12⟩ : ∃ c : Array Value, w12.heap[go]? = some (.cells c 86 (0, 0)) ∧ c.size = cells.size := ⟨_, (by rw [hw]; exact blk_set HC11.out _ _), (by rw [Array.size_setIfInBounds]; exact hcs11)⟩; have HC12 := Aside0.mk hcu; have HB12 := Aside0.mk ((by rw [hw]; exact below_set HB11.out hgb) : Below w0.heap.size w0 w12); have HW12 := Aside0.mk ((by rw [hw]; exact laws_markAddS.kept_set HW11.out ⟨hPgo, rfl⟩ _ _) : Kept w w12 (fun i => P0_ i ∧ some i = (Value.slice (some ⟨go, 0, none⟩) l0.length co).ownBlock)); clear hw hcu))
        go_roundg (l0.length - (kk + 1))
        case measure => omega
        case rel =>
          refine ⟨kk + 1, _, by omega, by omega, rfl, by go_num, H', ⟨fun go2 cells2 e2 hc2 => ?_⟩, ⟨by repeat (first | exact HW12.out | apply Kept.alloc | apply Kept.drewN | apply Kept.drew)⟩, ⟨by repeat (first | exact HB12.out | apply below_alloc | apply pw_below_drewN | apply below_drew1)⟩⟩
          obtain rfl : go = go2 := by injection e2 with e2; injection e2
          have hcc := hcells2.out.symm.trans hc2
          obtain rfl : cells = cells2 := by injection hcc with hcc; injection hcc
          exact ⟨_, by (with_reducible repeat (first | refine blk_drewN ?_ _ | refine blk_drew ?_)); exact HC12.out, hcs12⟩
      · have hltz : ¬ (kk : Int) < (l0.length : Int) := by omega
        have : kk = l0.length := by omega
        subst this
        have H := HA.out
        rw [Nat.sub_self] at H
        have ha : a = r1 := by simpa [laws_markAddS.l] using H
        subst ha
        clear H HA
        go_wp2
        go_ret
        exact ⟨by first | rfl | (simp; done), by repeat (first | exact HB.out | apply below_alloc | apply pw_below_drewN | apply below_drew1), Kept.mono (S := fun i => P0_ i ∧ some i = (Value.slice Ao l0.length co).ownBlock) (by repeat (first | exact HW.out | apply Kept.alloc | apply Kept.drewN | apply Kept.drew)) (fun i hi => hi.1)⟩
  · rw [if_neg hlen] at h
    cases h

/-! ### laws_markEdit: function 17 -/
def laws_markEdit.f (k : Nat) (a0_0 : Int) (a0_1 : Int) (a0_2 : Int) (l0_3 : List Int) (l0_4 : List (S86)) (a1 : Int) : Option (Int × List Int) := (laws_markIntS.f k l0_3 a1).bind fun bt277 => ((laws_markAddS.f k l0_4 bt277.1).bind fun t279 => (some (t279, bt277.2)))
theorem laws_markEdit.mono : ∀ a0 a1 a2 a3 a4 a5 k, LeO (laws_markEdit.f k a0 a1 a2 a3 a4 a5) (laws_markEdit.f (k + 1) a0 a1 a2 a3 a4 a5) := by
  intro a0 a1 a2 a3 a4 a5 k
  unfold laws_markEdit.f
  repeat' first
      | (with_reducible exact laws_markAddS.mono _ _ _)
      | (with_reducible exact laws_markIntS.mono _ _ _)
      | (with_reducible exact LeO.refl _)
      | (with_reducible exact LeO.none _)
      | (with_reducible refine LeO.ite ?_ ?_)
      | (with_reducible refine LeO.bind ?_ (fun _ => ?_))
      | exact laws_markAddS.mono _ _ _
      | exact laws_markIntS.mono _ _ _
      | exact LeO.none _
      | refine LeO.ite ?_ ?_
      | refine LeO.bind ?_ (fun _ => ?_)
set_option maxHeartbeats 8000000 in
set_option maxRecDepth 100000 in
theorem laws_markEdit.calls (k : Nat) (a0_0 : Int) (a0_1 : Int) (a0_2 : Int) (P0_3_ : Nat → Prop) (u9000_ : Value) (l0_3 : List Int) (P0_4_ : Nat → Prop) (u9001_ : Value) (l0_4 : List (S86)) (a1 : Int) (r1 : Int) (r2 : List Int) (w0 w : World) (hB : Below w0.heap.size w0 w) (ho0_3 : Kd.R (Kd.int .i64) 3 w w0.heap.size P0_3_ u9000_ l0_3) (ho0_4 : Kd.R k86 86 w w0.heap.size P0_4_ u9001_ l0_4) (h : laws_markEdit.f k a0_0 a0_1 a0_2 l0_3 l0_4 a1 = some (r1, r2)) :
    Calls Try.prog 17 #[.agg #[.int .i64 a0_0, .int .i64 a0_1, .int .i64 a0_2, u9000_, u9001_], .int .i64 a1] w fun e w' => e = .returned (.int .i64 r1) ∧ Kd.R (Kd.int .i64) 3 w' w0.heap.size (fun k_ => ((P0_3_ k_ ∨ P0_4_ k_) ∨ w.heap.size ≤ k_)) u9000_ r2 ∧ Below w0.heap.size w0 w' ∧ Kept w w' (fun k_ => P0_3_ k_ ∨ P0_4_ k_) := by
  have hu43 := Try.underlying43
  have HO0_3 := Aside0.mk (show Kd.R (Kd.int .i64) 3 w w0.heap.size (fun k_ => ((P0_3_ k_ ∨ P0_4_ k_) ∨ w.heap.size ≤ k_)) u9000_ l0_3 from Kd.R_mono ho0_3 (fun k_ hk => (.inl (.inl hk))))
  have HO0_4 := Aside0.mk (show Kd.R k86 86 w w0.heap.size (fun k_ => ((P0_3_ k_ ∨ P0_4_ k_) ∨ w.heap.size ≤ k_)) u9001_ l0_4 from Kd.R_mono ho0_4 (fun k_ hk => (.inl (.inr hk))))
  have HK := Aside0.mk (Kept.refl w (fun k_ => P0_3_ k_ ∨ P0_4_ k_))
  have HW0 := Aside0.mk hB.size
  have HB := Aside0.mk hB
  clear hB
  have H : ((laws_markIntS.f k l0_3 a1).bind fun bt277 => ((laws_markAddS.f k l0_4 bt277.1).bind fun t279 => (some (t279, bt277.2)))) = some (r1, r2) := h
  clear h
  replace H := Option.bind_eq_some_iff.mp H
  obtain ⟨⟨t277, t278⟩, A30, H⟩ := H
  replace H : ((laws_markAddS.f k l0_4 t277).bind fun t279 => (some (t279, t278))) = some (r1, r2) := H
  have A3 := Aside0.mk A30
  clear A30
  replace H := Option.bind_eq_some_iff.mp H
  obtain ⟨t279, A40, H⟩ := H
  replace H : (some (t279, t278)) = some (r1, r2) := H
  have A4 := Aside0.mk A40
  clear A40
  simp only [Option.some.injEq, Prod.mk.injEq] at H
  obtain ⟨rfl, rfl⟩ := H
  obtain ⟨Ao5, co5, eo5⟩ := Kd.R_slice HO0_3.out
  subst eo5
  obtain ⟨Ao6, co6, eo6⟩ := Kd.R_slice HO0_4.out
  subst eo6
  go_enter Try.func17, Try.ntmps17
  go_wp2_with (first | ((with_reducible refine gate_dst (N := 2) rfl ?_); refine box_event ?hg (N := 2) ?hd (cs := #[.int .i64 a0_0, .int .i64 a0_1, .int .i64 a0_2, .slice Ao5 l0_3.length co5, .slice Ao6 l0_4.length co6]) (t := 43) ?hr ?_; (case hd => rfl); (case hg => rfl); (case hr => first | (go_simp; done) | (go_simp; rfl)); intro gb276 hg w7 hbox hb; have n0_ := Aside0.mk (Kd.R_below (by (with_reducible repeat (first | apply Kd.R_alloc | apply Kd.R_drewN | apply Kd.R_drew)); exact HO0_3.out) hb); have n1_ := Aside0.mk (Kd.R_below (by (with_reducible repeat (first | apply Kd.R_alloc | apply Kd.R_drewN | apply Kd.R_drew)); exact HO0_4.out) hb); have n2_ := Aside0.mk (Kept.below (S := (fun k_ => P0_3_ k_ ∨ P0_4_ k_)) (by repeat (first | (with_reducible first | exact HK.out | apply Kept.alloc | apply Kept.drewN | apply Kept.drew) | exact HK.out)) hb); have n3_ := Aside0.mk (below_step (by repeat (first | (with_reducible first | exact HB.out | apply below_alloc | apply pw_below_drewN | apply below_drew1) | exact HB.out)) hb); have n4_ := Aside0.mk (hbox); have n5_ := Aside0.mk ((by rw [hg]; exact (by first | exact HK.out.1 | exact (show Kept w _ (fun k_ => P0_3_ k_ ∨ P0_4_ k_) from by repeat (first | (with_reducible first | exact HK.out | apply Kept.alloc | apply Kept.drewN | apply Kept.drew) | exact HK.out)).1) : w.heap.size ≤ gb276)); have n6_ := Aside0.mk ((by rw [hg]; exact (below_size (by repeat (first | (with_reducible first | exact HB.out | apply below_alloc | apply pw_below_drewN | apply below_drew1) | exact HB.out))) : w0.heap.size ≤ gb276)); clear HO0_3; clear HO0_4; clear HK; clear HB; have HO0_3 := n0_; have HO0_4 := n1_; have HK := n2_; have HB := n3_; have BK276 := n4_; have GW276 := n5_; have GE276 := n6_; clear n0_ n1_ n2_ n3_ n4_ n5_ n6_; clear hb hbox hg; have hcz8_0 : w7.cell? ⟨gb276, 0, none⟩ = some (.int .i64 a0_0) := (blk_cell BK276.out 0).trans rfl; have hcz8_1 : w7.cell? ⟨gb276, 1, none⟩ = some (.int .i64 a0_1) := (blk_cell BK276.out 1).trans rfl; have hcz8_2 : w7.cell? ⟨gb276, 2, none⟩ = some (.int .i64 a0_2) := (blk_cell BK276.out 2).trans rfl; have hcz8_3 : w7.cell? ⟨gb276, 3, none⟩ = some (.slice Ao5 l0_3.length co5) := (blk_cell BK276.out 3).trans rfl; have hcz8_4 : w7.cell? ⟨gb276, 4, none⟩ = some (.slice Ao6 l0_4.length co6) := (blk_cell BK276.out 4).trans rfl; have hfz8_0 := blk_frozen BK276.out 0; have hfz8_1 := blk_frozen BK276.out 1; have hfz8_2 := blk_frozen BK276.out 2; have hfz8_3 := blk_frozen BK276.out 3; have hfz8_4 := blk_frozen BK276.out 4) | ((with_reducible refine gate_callee (f := 24) rfl ?_); refine goesL_ (some 8) rfl rfl Try.func24 (by kernel_rfl) rfl #[.slice Ao5 l0_3.length co5, .int .i64 a1] rfl (by (try simp only [List.map_toArray, List.map_cons, List.map_nil]); first | done | rfl | (simp only [List.length_drop, List.length_take]; rfl)) ?_; (with_reducible refine (laws_markIntS.calls k (fun k_ => some k_ = (.slice Ao5 l0_3.length co5 : Value).ownBlock) (.slice Ao5 l0_3.length co5) l0_3 a1 t277 t278 w0 _ ?side1 ?side2 A3.out).mono ?_); (case side1 => repeat (first | (with_reducible first | exact HB.out | apply below_alloc | apply pw_below_drewN | apply below_drew1 | refine below_set ?_ GE276.out) | exact HB.out)); (case side2 => exact Kd.R_tight rfl HO0_3.out); rintro e w9 ⟨rfl, hy0, hb, hkp⟩; refine ⟨_, rfl, ?_⟩; have n0_ := Aside0.mk (Kd.R_reok rfl hy0 (fun k_ e_ => HO0_3.out.1 k_ e_)); have n1_ := Aside0.mk (Kd.R_mono (ok' := fun k_ => ((P0_3_ k_ ∨ P0_4_ k_) ∨ w.heap.size ≤ k_)) (Kd.R_keptB ((Kd.R_apart' HO0_4.out (Kd.R_typed HO0_3.out) (by decide))) hkp (fun k_ hk_ hs_ => (hk_.2) hs_)) (fun k_ hk_ => hk_.1.1)); have n2_ := Aside0.mk (blk_kept (by (with_reducible repeat (first | refine blk_drewN ?_ _ | refine blk_drew ?_ | refine blk_alloc ?_ _)); exact BK276.out) hkp (fun hs_ => (fun e_ => (Kd.R_ne HO0_3.out BK276.out (by decide)) e_) hs_)); have n3_ := Aside0.mk (Kept.then_ (S := (fun k_ => P0_3_ k_ ∨ P0_4_ k_)) (by repeat (first | (with_reducible first | exact HK.out | apply Kept.alloc | apply Kept.drewN | apply Kept.drew | refine Kept.setCell ?_ (.inr GW276.out) _) | exact HK.out)) hkp (fun k_ hs_ => (fun e_ => (HO0_3.out.1 k_ e_.symm)) hs_)); have n4_ := Aside0.mk (hb); clear HO0_3; clear HO0_4; clear BK276; clear HK; clear HB; have HO0_3 := n0_; have HO0_4 := n1_; have BK276 := n2_; have HK := n3_; have HB := n4_; clear n0_ n1_ n2_ n3_ n4_; (try clear hb); (try clear hkp); (try clear hy0); have hcz10_0 : w9.cell? ⟨gb276, 0, none⟩ = some (.int .i64 a0_0) := (blk_cell BK276.out 0).trans rfl; have hcz10_1 : w9.cell? ⟨gb276, 1, none⟩ = some (.int .i64 a0_1) := (blk_cell BK276.out 1).trans rfl; have hcz10_2 : w9.cell? ⟨gb276, 2, none⟩ = some (.int .i64 a0_2) := (blk_cell BK276.out 2).trans rfl; have hcz10_3 : w9.cell? ⟨gb276, 3, none⟩ = some (.slice Ao5 l0_3.length co5) := (blk_cell BK276.out 3).trans rfl; have hcz10_4 : w9.cell? ⟨gb276, 4, none⟩ = some (.slice Ao6 l0_4.length co6) := (blk_cell BK276.out 4).trans rfl; have hfz10_0 := blk_frozen BK276.out 0; have hfz10_1 := blk_frozen BK276.out 1; have hfz10_2 := blk_frozen BK276.out 2; have hfz10_3 := blk_frozen BK276.out 3; have hfz10_4 := blk_frozen BK276.out 4) | ((with_reducible refine gate_callee (f := 45) rfl ?_); refine goesL_ (some 12) rfl rfl Try.func45 (by kernel_rfl) rfl #[.slice Ao6 l0_4.length co6, .int .i64 t277] rfl (by (try simp only [List.map_toArray, List.map_cons, List.map_nil]); first | done | rfl | (simp only [List.length_drop, List.length_take]; rfl)) ?_; (with_reducible refine (laws_markAddS.calls k (fun k_ => some k_ = (.slice Ao6 l0_4.length co6 : Value).ownBlock) (.slice Ao6 l0_4.length co6) l0_4 t277 t279 w0 _ ?side1 ?side2 A4.out).mono ?_); (case side1 => repeat (first | (with_reducible first | exact HB.out | apply below_alloc | apply pw_below_drewN | apply below_drew1 | refine below_set ?_ GE276.out) | exact HB.out)); (case side2 => exact Kd.R_tight rfl HO0_4.out); rintro e w11 ⟨rfl, hb, hkp⟩; refine ⟨_, rfl, ?_⟩; have n0_ := Aside0.mk (Kd.R_mono (ok' := fun k_ => ((P0_3_ k_ ∨ P0_4_ k_) ∨ w.heap.size ≤ k_)) (Kd.R_keptB ((Kd.R_apart' HO0_3.out (Kd.R_typed HO0_4.out) (by decide))) hkp (fun k_ hk_ hs_ => (hk_.2) hs_)) (fun k_ hk_ => hk_.1.1)); have n1_ := Aside0.mk (blk_kept (by (with_reducible repeat (first | refine blk_drewN ?_ _ | refine blk_drew ?_ | refine blk_alloc ?_ _)); exact BK276.out) hkp (fun hs_ => (fun e_ => (Kd.R_ne HO0_4.out BK276.out (by decide)) e_) hs_)); have n2_ := Aside0.mk (Kept.then_ (S := (fun k_ => P0_3_ k_ ∨ P0_4_ k_)) (by repeat (first | (with_reducible first | exact HK.out | apply Kept.alloc | apply Kept.drewN | apply Kept.drew | refine Kept.setCell ?_ (.inr GW276.out) _) | exact HK.out)) hkp (fun k_ hs_ => (fun e_ => (HO0_4.out.1 k_ e_.symm)) hs_)); have n3_ := Aside0.mk (hb); clear HO0_3; clear BK276; clear HK; clear HB; clear HO0_4; have HO0_3 := n0_; have BK276 := n1_; have HK := n2_; have HB := n3_; clear n0_ n1_ n2_ n3_; (try clear hb); (try clear hkp)))
  go_ret
  exact ⟨by first | rfl | (simp [errW_none, errW_some] <;> rfl) | (simp [*, errW_none, errW_some] <;> rfl), by (with_reducible repeat (first | apply Kd.R_alloc | apply Kd.R_drewN | apply Kd.R_drew)); exact HO0_3.out, by repeat (first | (with_reducible first | exact HB.out | apply below_alloc | apply pw_below_drewN | apply below_drew1 | refine below_set ?_ GE276.out) | exact HB.out), by repeat (first | (with_reducible first | exact HK.out | apply Kept.alloc | apply Kept.drewN | apply Kept.drew | refine Kept.setCell ?_ (.inr GW276.out) _) | exact HK.out)⟩

/-! ### laws_markByteS: function 18 -/
def laws_markByteS.l0 : Nat → List Int → Int → Int → Option (Int × List Int)
  | 0, _, _, _ => none
  | k + 1, x0, x1, x5 => if x5 < (x0.length : Int) then (if 0 ≤ x5 then (laws_markByteS.l0 k (x0.set (x5 : Int).toNat ((x1) % 256)) (wrap64 (x1 + 1)) (wrap64 (x5 + 1))) else (none)) else (some (x1, x0))
def laws_markByteS.f (k : Nat) (l0 : List Int) (a1 : Int) : Option (Int × List Int) := laws_markByteS.l0 k l0 a1 0
theorem laws_markByteS.mono_l : ∀ k, (∀ y0 y1 y2, LeO (laws_markByteS.l0 k y0 y1 y2) (laws_markByteS.l0 (k + 1) y0 y1 y2))
  | 0 => fun _ _ _ r h => by simp [laws_markByteS.l0] at h
  | k + 1 => by
    have ih0 := laws_markByteS.mono_l k
    · intro y0 y1 y2
      unfold laws_markByteS.l0
      repeat' first
      | (with_reducible exact ih0 _ _ _)
      | (with_reducible exact LeO.refl _)
      | (with_reducible exact LeO.none _)
      | (with_reducible refine LeO.ite ?_ ?_)
      | (with_reducible refine LeO.bind ?_ (fun _ => ?_))
      | exact ih0 _ _ _
      | exact LeO.none _
      | refine LeO.ite ?_ ?_
      | refine LeO.bind ?_ (fun _ => ?_)
theorem laws_markByteS.mono : ∀ a0 a1 k, LeO (laws_markByteS.f k a0 a1) (laws_markByteS.f (k + 1) a0 a1) := by
  intro a0 a1 k
  have ih0 := laws_markByteS.mono_l k
  unfold laws_markByteS.f
  repeat' first
      | (with_reducible exact ih0 _ _ _)
      | (with_reducible exact LeO.refl _)
      | (with_reducible exact LeO.none _)
      | (with_reducible refine LeO.ite ?_ ?_)
      | (with_reducible refine LeO.bind ?_ (fun _ => ?_))
      | exact ih0 _ _ _
      | exact LeO.none _
      | refine LeO.ite ?_ ?_
      | refine LeO.bind ?_ (fun _ => ?_)
set_option maxHeartbeats 8000000 in
set_option maxRecDepth 100000 in
theorem laws_markByteS.calls (k : Nat) (P0_ : Nat → Prop) (u9000_ : Value) (l0 : List Int) (a1 : Int) (r1 : Int) (r2 : List Int) (w0 w : World) (hB : Below w0.heap.size w0 w) (ho0 : Kd.R (Kd.int .u8) 5 w w0.heap.size P0_ u9000_ l0) (h : laws_markByteS.f k l0 a1 = some (r1, r2)) :
    Calls Try.prog 18 #[u9000_, .int .i64 a1] w fun e w' => e = .returned (.int .i64 r1) ∧ Kd.R (Kd.int .u8) 5 w' w0.heap.size (fun k_ => (P0_ k_ ∨ w.heap.size ≤ k_)) u9000_ r2 ∧ Below w0.heap.size w0 w' ∧ Kept w w' (fun k_ => P0_ k_) := by
  have HO0 := Aside0.mk (show Kd.R (Kd.int .u8) 5 w w0.heap.size (fun k_ => (P0_ k_ ∨ w.heap.size ≤ k_)) u9000_ l0 from Kd.R_mono ho0 (fun k_ hk => (.inl hk)))
  have HK := Aside0.mk (Kept.refl w (fun k_ => P0_ k_))
  have HW0 := Aside0.mk hB.size
  have HB := Aside0.mk hB
  clear hB
  have H : (laws_markByteS.l0 k l0 a1 0) = some (r1, r2) := h
  clear h
  have H' := Aside0.mk H
  clear H
  go_enter Try.func18, Try.ntmps18
  go_wp2
  go_loopg [1, 5] k (fun kq v1 v5 w' => ∃ (x0_1 : List Int) (x1_1 : Int) (x5_1 : Int), v1 = .int .i64 x1_1 ∧ v5 = .int .i64 x5_1 ∧ Aside0 (laws_markByteS.l0 kq x0_1 x1_1 x5_1 = some (r1, r2)) ∧ Aside0 (kq ≤ k) ∧ Aside0 (Kd.R (Kd.int .u8) 5 w' w0.heap.size (fun k_ => (P0_ k_ ∨ w.heap.size ≤ k_)) u9000_ x0_1) ∧ Aside0 (Kept w w' (fun k_ => P0_ k_)) ∧ Aside0 (Below w0.heap.size w0 w'))
  case atStart => exact ⟨(l0), (a1), (0), (by first | rfl | (simp; done) | (simp [*]; done)), (by first | rfl | (simp; done) | (simp [*]; done)), H', ⟨Nat.le_refl _⟩, ⟨by (with_reducible repeat (first | apply Kd.R_alloc | apply Kd.R_drewN | apply Kd.R_drew)); exact HO0.out⟩, ⟨by repeat (first | (with_reducible first | exact HK.out | apply Kept.alloc | apply Kept.drewN | apply Kept.drew) | exact HK.out)⟩, ⟨by repeat (first | (with_reducible first | exact HB.out | apply below_alloc | apply pw_below_drewN | apply below_drew1) | exact HB.out)⟩⟩
  case round =>
    clear H'
    try clear c1
    try clear p2
    obtain ⟨x0_1, x1_1, x5_1, rfl, rfl, HA, HK1, HO_0, HK, HB⟩ := hrel
    cases gk with
    | zero => exact absurd HA.out (by simp [laws_markByteS.l0])
    | succ k1 =>
      have H := HA.out
      clear HA
      simp only [laws_markByteS.l0] at H
      by_cases c3 : x5_1 < (x0_1.length : Int)
      · rw [if_pos c3] at H
        have c3b0 : decide (x5_1 < (x0_1.length : Int)) = true := decide_eq_true c3
        clear c3
        by_cases c4 : 0 ≤ x5_1
        · rw [if_pos c4] at H
          have c4b0 : decide (0 ≤ x5_1) = true := decide_eq_true c4
          clear c4
          obtain ⟨y280, hy280⟩ : ∃ y_ : List Int, y_ = (x0_1.set (x5_1 : Int).toNat ((x1_1) % 256)) := ⟨_, rfl⟩
          replace H : (laws_markByteS.l0 k1 y280 (wrap64 (x1_1 + 1)) (wrap64 (x5_1 + 1))) = some (r1, r2) := by first | (rw [hy280]; with_reducible exact H) | (have H2_ := (Option.bind_some _ _).symm.trans H; rw [hy280]; with_reducible exact H2_) | (have H2_ := (Option.bind_some _ _).symm.trans H; with_reducible exact H2_) | with_reducible exact H | (rw [hy280]; exact H) | exact H
          have Ny280 := Aside0.mk hy280
          clear hy280
          have H' := Aside0.mk H
          clear H
          obtain ⟨Ao6, co6, eo6⟩ := Kd.R_slice HO_0.out
          subst eo6
          have p5 : 0 ≤ (x5_1 : Int) := of_decide_eq_true (by first | (with_reducible assumption) | assumption)
          have q5 : (x5_1 : Int) < ((x0_1.length : Int) : Int) := of_decide_eq_true (by first | (with_reducible assumption) | assumption)
          obtain ⟨go5, co5, eo5, gb5, gl5, cl5, HG5⟩ := Kd.R_form HO_0.out (by omega)
          (first | cases eo5 | (injection eo5 with ea_ en_ ec_; (first | subst ea_ | (injection ea_ with ea_; subst ea_)); subst ec_; clear en_))
          have GB5 := Aside0.mk gb5
          have GG5 := Aside0.mk HG5
          clear gb5 gl5 HG5
          have HMgo5 := Aside0.mk (show (P0_ go5 ∨ w.heap.size ≤ go5) from (HO_0.out.1 _ rfl))
          obtain ⟨hx5_0, hf5_0⟩ := Kd.R_celln 0 HO_0.out (x5_1 : Int) p5 q5
          replace p5 := eq_true p5
          replace q5 := eq_true q5
          have HP7 := Kd.R_putg HO_0.out (x5_1 : Int) ((x1_1) % 256)
          go_wp2_with (first | ((with_reducible refine gate_store (t := 5) (p := 16) rfl ?_); refine store_event (t := 5) (p := 16) (v := ?vo_w8) (w1 := (wr.setCell ⟨go5, (x5_1 : Int).toNat, none⟩ (.int .u8 ((x1_1) % 256)))) ?hg ?ho ?hn ?hr ?_; (case ho => rfl); (case hg => rfl); (case hn => rfl); (case hr => first | (go_simp; done) | (go_simp; rfl)); intro w8 hw; have hg : wr.grownBy w8 (some go5) := (by rw [hw]; exact HP7.2); have hp_ : Kd.R (Kd.int .u8) 5 w8 w0.heap.size (fun k_ => (P0_ k_ ∨ w.heap.size ≤ k_)) (.slice (some ⟨go5, 0, none⟩) x0_1.length co6) y280 := (by rw [hw, Ny280.out]; exact HP7.1); clear HP7; have n0_ := Aside0.mk (hp_); have n1_ := Aside0.mk ((by rw [hw]; exact below_set (HB.out) GB5.out : Below w0.heap.size w0 w8)); have n2_ := Aside0.mk (Kept.of_grown (S := (fun k_ => P0_ k_)) hg (by repeat (first | (with_reducible first | exact HK.out | apply Kept.alloc | apply Kept.drewN | apply Kept.drew) | exact HK.out)) (fun k_ e_ => (HO_0.out.1 k_ e_))); clear HO_0; clear HB; clear HK; have HO_0 := n0_; have HB := n1_; have HK := n2_; clear n0_ n1_ n2_; clear hg hw hp_))
          go_roundg k1
          case measure => have := HK1.out; omega
          case rel => exact ⟨(y280), (wrap64 (x1_1 + 1)), (wrap64 (x5_1 + 1)), (by first | rfl | (simp; done) | (simp [*]; done)), (by first | rfl | (simp; done) | (simp [*]; done)), H', ⟨by have := HK1.out; omega⟩, ⟨by (with_reducible repeat (first | apply Kd.R_alloc | apply Kd.R_drewN | apply Kd.R_drew)); exact HO_0.out⟩, ⟨by repeat (first | (with_reducible first | exact HK.out | apply Kept.alloc | apply Kept.drewN | apply Kept.drew) | exact HK.out)⟩, ⟨by repeat (first | (with_reducible first | exact HB.out | apply below_alloc | apply pw_below_drewN | apply below_drew1) | exact HB.out)⟩⟩
        · rw [if_neg c4] at H
          exact absurd H (by simp)
      · rw [if_neg c3] at H
        have c3b0 : decide (x5_1 < (x0_1.length : Int)) = false := decide_eq_false c3
        clear c3
        simp only [Option.some.injEq, Prod.mk.injEq] at H
        obtain ⟨rfl, rfl⟩ := H
        obtain ⟨Ao9, co9, eo9⟩ := Kd.R_slice HO_0.out
        subst eo9
        go_wp2
        go_ret
        exact ⟨by first | rfl | (simp [errW_none, errW_some] <;> rfl) | (simp [*, errW_none, errW_some] <;> rfl), by (with_reducible repeat (first | apply Kd.R_alloc | apply Kd.R_drewN | apply Kd.R_drew)); exact HO_0.out, by repeat (first | (with_reducible first | exact HB.out | apply below_alloc | apply pw_below_drewN | apply below_drew1) | exact HB.out), by repeat (first | (with_reducible first | exact HK.out | apply Kept.alloc | apply Kept.drewN | apply Kept.drew) | exact HK.out)⟩

/-! ### laws_heldByteS: function 19 -/
def laws_heldByteS.l0 : Nat → List Int → Int → Int → Option (Int)
  | 0, _, _, _ => none
  | k + 1, x0, x1, x5 => if x5 < (x0.length : Int) then (if 0 ≤ x5 then (if (rd x0 x5) = ((x1) % 256) then (laws_heldByteS.l0 k x0 (wrap64 (x1 + 1)) (wrap64 (x5 + 1))) else (some (-1))) else (none)) else (some x1)
def laws_heldByteS.f (k : Nat) (l0 : List Int) (a1 : Int) : Option (Int) := laws_heldByteS.l0 k l0 a1 0
theorem laws_heldByteS.mono_l : ∀ k, (∀ y0 y1 y2, LeO (laws_heldByteS.l0 k y0 y1 y2) (laws_heldByteS.l0 (k + 1) y0 y1 y2))
  | 0 => fun _ _ _ r h => by simp [laws_heldByteS.l0] at h
  | k + 1 => by
    have ih0 := laws_heldByteS.mono_l k
    · intro y0 y1 y2
      unfold laws_heldByteS.l0
      repeat' first
      | (with_reducible exact ih0 _ _ _)
      | (with_reducible exact LeO.refl _)
      | (with_reducible exact LeO.none _)
      | (with_reducible refine LeO.ite ?_ ?_)
      | (with_reducible refine LeO.bind ?_ (fun _ => ?_))
      | exact ih0 _ _ _
      | exact LeO.none _
      | refine LeO.ite ?_ ?_
      | refine LeO.bind ?_ (fun _ => ?_)
theorem laws_heldByteS.mono : ∀ a0 a1 k, LeO (laws_heldByteS.f k a0 a1) (laws_heldByteS.f (k + 1) a0 a1) := by
  intro a0 a1 k
  have ih0 := laws_heldByteS.mono_l k
  unfold laws_heldByteS.f
  repeat' first
      | (with_reducible exact ih0 _ _ _)
      | (with_reducible exact LeO.refl _)
      | (with_reducible exact LeO.none _)
      | (with_reducible refine LeO.ite ?_ ?_)
      | (with_reducible refine LeO.bind ?_ (fun _ => ?_))
      | exact ih0 _ _ _
      | exact LeO.none _
      | refine LeO.ite ?_ ?_
      | refine LeO.bind ?_ (fun _ => ?_)
set_option maxHeartbeats 8000000 in
set_option maxRecDepth 100000 in
theorem laws_heldByteS.calls (k : Nat) (A0 : Option Addr) (c0 : Nat) (l0 : List Int) (a1 : Int) (r : Int) (w : World) (hr0 : Kd.C (Kd.int .u8) w A0 l0.length l0) (hc0 : l0.length ≤ c0) (h : laws_heldByteS.f k l0 a1 = some r) :
    Calls Try.prog 19 #[.slice A0 l0.length c0, .int .i64 a1] w fun e w' => e = .returned (.int .i64 r) ∧ Drawn0 w w' := by
  have HR0 := Aside0.mk hr0
  have HC0 := Aside0.mk hc0
  clear hr0 hc0
  have H : (laws_heldByteS.l0 k l0 a1 0) = some r := h
  clear h
  have H' := Aside0.mk H
  clear H
  go_enter Try.func19, Try.ntmps19
  go_wp2
  go_loopg [1, 5] k (fun kq v1 v5 w' => ∃ (x1_1 : Int) (x5_1 : Int), v1 = .int .i64 x1_1 ∧ v5 = .int .i64 x5_1 ∧ Aside0 (laws_heldByteS.l0 kq l0 x1_1 x5_1 = some r) ∧ Aside0 (kq ≤ k) ∧ Drawn0 w w')
  case atStart => exact ⟨(a1), (0), (by first | rfl | (simp; done) | (simp [*]; done)), (by first | rfl | (simp; done) | (simp [*]; done)), H', ⟨Nat.le_refl _⟩, by repeat (first | exact Drawn0.refl _ | apply Drawn0.step)⟩
  case round =>
    clear H'
    try clear c1
    try clear p2
    obtain ⟨x1_1, x5_1, rfl, rfl, HA, HK1, ⟨m1, rfl⟩⟩ := hrel
    cases gk with
    | zero => exact absurd HA.out (by simp [laws_heldByteS.l0])
    | succ k1 =>
      have H := HA.out
      clear HA
      simp only [laws_heldByteS.l0] at H
      by_cases c3 : x5_1 < (l0.length : Int)
      · rw [if_pos c3] at H
        have c3b0 : decide (x5_1 < (l0.length : Int)) = true := decide_eq_true c3
        clear c3
        by_cases c4 : 0 ≤ x5_1
        · rw [if_pos c4] at H
          have c4b0 : decide (0 ≤ x5_1) = true := decide_eq_true c4
          clear c4
          by_cases c5 : (rd l0 x5_1) = ((x1_1) % 256)
          · rw [if_pos c5] at H
            have c5b0 : ((rd l0 x5_1) == ((x1_1) % 256)) = true := beq_iff_eq.mpr c5
            have c5b1 : ((rd l0 x5_1) != ((x1_1) % 256)) = false := bne_eq_false_iff_eq.mpr c5
            clear c5
            have H' := Aside0.mk H
            clear H
            have p281 : 0 ≤ (x5_1 : Int) := of_decide_eq_true (by first | (with_reducible assumption) | assumption)
            have q281 : x5_1 < (l0.length : Int) := of_decide_eq_true (by first | (with_reducible assumption) | assumption)
            obtain ⟨ad281, e281, hx281_0⟩ := Kd.at_int HR0.out x5_1 p281 q281
            cases e281
            replace p281 := eq_true p281
            replace q281 := eq_true q281
            go_wp2
            go_roundg k1
            case measure => have := HK1.out; omega
            case rel => exact ⟨(wrap64 (x1_1 + 1)), (wrap64 (x5_1 + 1)), (by first | rfl | (simp; done) | (simp [*]; done)), (by first | rfl | (simp; done) | (simp [*]; done)), H', ⟨by have := HK1.out; omega⟩, by repeat (first | exact Drawn0.refl _ | apply Drawn0.step)⟩
          · rw [if_neg c5] at H
            have c5b0 : ((rd l0 x5_1) == ((x1_1) % 256)) = false := beq_eq_false_iff_ne.mpr c5
            have c5b1 : ((rd l0 x5_1) != ((x1_1) % 256)) = true := bne_iff_ne.mpr c5
            obtain rfl := Option.some.inj H
            have p281 : 0 ≤ (x5_1 : Int) := of_decide_eq_true (by first | (with_reducible assumption) | assumption)
            have q281 : x5_1 < (l0.length : Int) := of_decide_eq_true (by first | (with_reducible assumption) | assumption)
            obtain ⟨ad281, e281, hx281_0⟩ := Kd.at_int HR0.out x5_1 p281 q281
            cases e281
            replace p281 := eq_true p281
            replace q281 := eq_true q281
            go_wp2
            go_ret
            exact ⟨by first | rfl | (simp; done) | (simp [*]; done), by repeat (first | exact Drawn0.refl _ | apply Drawn0.step)⟩
        · rw [if_neg c4] at H
          exact absurd H (by simp)
      · rw [if_neg c3] at H
        have c3b0 : decide (x5_1 < (l0.length : Int)) = false := decide_eq_false c3
        clear c3
        obtain rfl := Option.some.inj H
        go_wp2
        go_ret
        exact ⟨by first | rfl | (simp; done) | (simp [*]; done), by repeat (first | exact Drawn0.refl _ | apply Drawn0.step)⟩

end Go.Proofs.Ytefconminjiapaa.PFnExactEditBytes
