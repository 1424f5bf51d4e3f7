-- Written for this claim by a program of this session: a scratch copy of the kit's print with patches of this session.
import Derived.Test.YtadkabbeghpgcaaPFnExactReadEditx0
import Derived.Test.YtadkabbeghpgcaaPFnExactReadEditx4
import Derived.Test.YtadkabbeghpgcaaPFnExactReadEditx5
namespace Go.Proofs.Ytadkabbeghpgcaa.PFnExactReadEdit
open Go.RowKit Go.Proofs.YtadkabbeghpgcaaW.PrintWords Go.Proofs.YtadkabbeghpgcaaW.PrintLast Go.Proofs.YtadkabbeghpgcaaW.PrintMore
attribute [local go_sem] max2_int min2_int max_two min_two max_three min_three max_four min_four hw_string_geq hw_string_gtr hw_string_leq   -- for this text's walks alone
set_option linter.unusedVariables false
set_option linter.unusedSimpArgs false

/-! ### impl_editBytes: function 43, by hand -/
def impl_editBytes.p (k : Nat) : List Int → List Int → Option (List Int)
  | [], out => some out
  | n :: r, out => (impl_PutVar.f k (IntKind.u64.wrap n)).bind fun b => if out.length + b.length < 140737488355328 then impl_editBytes.p k r (out ++ b) else none
def impl_editBytes.a (k : Nat) : List S75 → List Int → Option (List Int)
  | [], out => some out
  | x :: r, out => (impl_editBytes.p k [x.f0, x.f1.f0, x.f1.f3] out).bind fun o => (impl_sized.f k x.f1.f1).bind fun b => (impl_sized.f k x.f1.f2).bind fun c => if o.length + b.length + c.length < 140737488355328 then impl_editBytes.a k r (o ++ b ++ c) else none
def impl_editBytes.f (k : Nat) (a0_0 : Int) (a0_1 : Int) (a0_2 : Int) (l0_3 : List Int) (l0_4 : List (S75)) : Option (List Int) :=
  (impl_editBytes.p k [a0_0, a0_1, a0_2, (l0_3.length : Int)] []).bind fun o1 => (impl_editBytes.p k l0_3 o1).bind fun o2 => (impl_editBytes.p k [(l0_4.length : Int)] o2).bind fun o3 => impl_editBytes.a k l0_4 o3
theorem impl_editBytes.mono_p (k : Nat) : ∀ (l out : List Int), LeO (impl_editBytes.p k l out) (impl_editBytes.p (k + 1) l out)
  | [], out => LeO.refl _
  | n :: r, out => LeO.bind (impl_PutVar.mono _ _) (fun _ => LeO.ite (impl_editBytes.mono_p k r _) (LeO.refl _))
theorem impl_editBytes.mono_a (k : Nat) : ∀ (l : List S75) (out : List Int), LeO (impl_editBytes.a k l out) (impl_editBytes.a (k + 1) l out)
  | [], out => LeO.refl _
  | x :: r, out => LeO.bind (impl_editBytes.mono_p _ _ _) (fun _ => LeO.bind (impl_sized.mono _ _) (fun _ => LeO.bind (impl_sized.mono _ _) (fun _ => LeO.ite (impl_editBytes.mono_a k r _) (LeO.refl _))))
theorem impl_editBytes.mono : ∀ a0 a1 a2 a3 a4 k, LeO (impl_editBytes.f k a0 a1 a2 a3 a4) (impl_editBytes.f (k + 1) a0 a1 a2 a3 a4) := by
  intro a0 a1 a2 a3 a4 k
  unfold impl_editBytes.f
  exact LeO.bind (impl_editBytes.mono_p _ _ _) (fun _ => LeO.bind (impl_editBytes.mono_p _ _ _) (fun _ => LeO.bind (impl_editBytes.mono_p _ _ _) (fun _ => impl_editBytes.mono_a _ _ _)))
/-- Blocks that are neither bytes nor the variable's are as they were. -/
def impl_editBytes.Fr (w W : World) : Prop := w.heap.size ≤ W.heap.size ∧ ∀ (i : Nat) (cells : Array Value) (t : TypeId), w.heap[i]? = some (.cells cells t (0, 0)) → t ≠ 22 → t ≠ 5 → W.heap[i]? = some (.cells cells t (0, 0))
theorem impl_editBytes.Fr.refl (w : World) : impl_editBytes.Fr w w := ⟨Nat.le_refl _, fun _ _ _ h _ _ => h⟩
theorem impl_editBytes.Fr.drew {w W : World} (h : impl_editBytes.Fr w W) : impl_editBytes.Fr w W.drew := h
theorem impl_editBytes.Fr.drewN {w W : World} (h : impl_editBytes.Fr w W) (n : Nat) : impl_editBytes.Fr w (W.drewN n) := h
theorem impl_editBytes.Fr.trans {w W V : World} (h : impl_editBytes.Fr w W) (k : impl_editBytes.Fr W V) : impl_editBytes.Fr w V := ⟨Nat.le_trans h.1 k.1, fun i c t hc h1 h2 => k.2 i c t (h.2 i c t hc h1 h2) h1 h2⟩
theorem impl_editBytes.Fr.below {w W V : World} (h : impl_editBytes.Fr w W) (k : Below W.heap.size W V) : impl_editBytes.Fr w V := h.trans ⟨k.size, fun i c t hc _ _ => blk_below hc k⟩
theorem impl_editBytes.Fr.alloc {w W : World} (h : impl_editBytes.Fr w W) (o : Obj) : impl_editBytes.Fr w (W.alloc o) := h.below (below_alloc (Below.refl _ _) o)
theorem impl_editBytes.Fr.set {w W : World} (h : impl_editBytes.Fr w W) {g : Nat} {cs : Array Value} (hb : W.heap[g]? = some (.cells cs 22 (0, 0))) (j : Nat) (u : Value) : impl_editBytes.Fr w (W.setCell ⟨g, j, none⟩ u) := by
  refine h.trans ⟨?_, fun i c t hc h1 h2 => ?_⟩
  · show W.heap.size ≤ (W.heap.modify g _).size
    rw [Array.size_modify]; exact Nat.le_refl _
  · refine blk_far hc (fun e => ?_) u
    have e' : i = g := e
    subst e'
    rw [hb] at hc
    injection hc with hc
    injection hc with _ hc
    exact h1 hc.symm
theorem impl_editBytes.Fr.grown {w W V : World} (h : impl_editBytes.Fr w W) {base : Nat} {ok : Nat → Prop} {v : Value} {xs : List Int} (ho : Kd.R (Kd.int .u8) 5 W base ok v xs) (hg : W.grownBy V v.ownBlock) : impl_editBytes.Fr w V := by
  refine h.trans ⟨hg.size, fun i c t hc h1 h2 => ?_⟩
  exact (hg.block i (blk_lt hc) (fun e => Kd.R_ne ho hc (fun e2 => h2 e2.symm) e)).trans hc
/-- What is so of the variable that is written. -/
structure impl_editBytes.St (w0 w : World) (gb : Nat) (v : Value) (out : List Int) : Prop where
  box : w.heap[gb]? = some (.cells #[v] 22 (0, 0))
  row : Kd.R (Kd.int .u8) 5 w w0.heap.size (fun _ => True) v out
  bel : Below w0.heap.size w0 w
  mine : w0.heap.size ≤ gb
theorem impl_editBytes.St.drew {w0 w : World} {gb : Nat} {v : Value} {out : List Int} (h : impl_editBytes.St w0 w gb v out) : impl_editBytes.St w0 w.drew gb v out := ⟨blk_drew h.box, Kd.R_drew h.row, below_drew1 h.bel, h.mine⟩
theorem impl_editBytes.St.drewN {w0 w : World} {gb : Nat} {v : Value} {out : List Int} (h : impl_editBytes.St w0 w gb v out) (n : Nat) : impl_editBytes.St w0 (w.drewN n) gb v out := ⟨blk_drewN h.box n, Kd.R_drewN h.row n, pw_below_drewN h.bel n, h.mine⟩
theorem impl_editBytes.St.below {w0 w W : World} {gb : Nat} {v : Value} {out : List Int} (h : impl_editBytes.St w0 w gb v out) (k : Below w.heap.size w W) : impl_editBytes.St w0 W gb v out := ⟨blk_below h.box k, Kd.R_below h.row k, below_step h.bel k, h.mine⟩
theorem impl_editBytes.St.alloc {w0 w : World} {gb : Nat} {v : Value} {out : List Int} (h : impl_editBytes.St w0 w gb v out) (o : Obj) : impl_editBytes.St w0 (w.alloc o) gb v out := h.below (below_alloc (Below.refl _ _) o)
/-- Behind the store of the longer row. -/
theorem impl_editBytes.St.put {w0 W : World} {gb : Nat} {v v1 : Value} {xs : List Int} (hb : W.heap[gb]? = some (.cells #[v] 22 (0, 0))) (hr : Kd.R (Kd.int .u8) 5 W w0.heap.size (fun _ => True) v1 xs) (hB : Below w0.heap.size w0 W) (hm : w0.heap.size ≤ gb) : impl_editBytes.St w0 (W.setCell ⟨gb, 0, none⟩ v1) gb v1 xs :=
  ⟨blk_put hb 0 v1 rfl, Kd.R_set hr hb (by decide) 0 v1, below_set hB hm, hm⟩
theorem impl_editBytes.lit {w W : World} {base : Nat} {ok : Nat → Prop} {A : Option Addr} {n c : Nat} {xs : List Int} (ho : Kd.R (Kd.int .i64) 3 w base ok (.slice A n c) xs) (hf : impl_editBytes.Fr w W) : Kd.C (Kd.int .i64) W A xs.length xs := by
  refine (Kd.R_reads' (Kd.R_move (Kd.R_tight rfl ho) (fun k hk => ?_))).2.2
  obtain ⟨inner, hi⟩ := Kd.R_own ho
  obtain ⟨cells, hc⟩ := own_typed hi k hk.symm
  rw [hc]
  exact hf.2 k cells 3 hc (by decide) (by decide)
/-- Behind the call of the literal: the variable holds the longer row. -/
def impl_editBytes.Done (w0 w : World) (gb : Nat) (r : List Int) (w' : World) : Prop := ∃ v', impl_editBytes.St w0 w' gb v' r ∧ impl_editBytes.Fr w w'
set_option maxHeartbeats 8000000 in
set_option maxRecDepth 100000 in
/-- the literal put -/
theorem impl_editBytes.put (k : Nat) (l out r : List Int) (A : Option Addr) (c gb : Nat) (v : Value) (w0 w : World) (hl : l.length ≤ c) (hC : ∀ W, Below w0.heap.size w0 W → impl_editBytes.Fr w W → Kd.C (Kd.int .i64) W A l.length l) (hS : impl_editBytes.St w0 w gb v out) (h : impl_editBytes.p k l out = some r) :
    Calls Try.prog 78 #[.slice A l.length c, .pointer (some ⟨gb, 0, none⟩)] w fun e w' => e = .returned (.tuple #[]) ∧ impl_editBytes.Done w0 w gb r w' := by
  have hlen : l.length ≤ 9223372036854775807 := (hC w hS.bel (impl_editBytes.Fr.refl w)).2.1
  have HC := Aside0.mk hC
  have HS0 := Aside0.mk hS
  have H' := Aside0.mk h
  clear hC hS h
  go_enter Try.func78, Try.ntmps78
  go_wp2
  go_loopg [7] l.length (fun gg v7 w' => ∃ (kk : Nat) (vv : Value) (oo : List Int), kk ≤ l.length ∧ l.length - kk ≤ gg ∧ v7 = .int .i64 kk ∧ Aside0 (impl_editBytes.p k (l.drop kk) oo = some r) ∧ Aside0 (impl_editBytes.St w0 w' gb vv oo) ∧ Aside0 (impl_editBytes.Fr w w'))
  case atStart => exact ⟨0, v, out, Nat.zero_le _, by omega, rfl, H', ⟨by repeat (first | exact HS0.out | apply impl_editBytes.St.drewN | apply impl_editBytes.St.drew)⟩, ⟨by repeat (first | exact impl_editBytes.Fr.refl _ | apply impl_editBytes.Fr.drewN | apply impl_editBytes.Fr.drew)⟩⟩
  case round =>
    clear H' HS0
    obtain ⟨kk, vv, oo, hkk, hg, rfl, HA, HS, HF⟩ := hrel
    by_cases hlt : kk < l.length
    · have hltz : (kk : Int) < (l.length : Int) := by omega
      have hk0 : (0 : Int) ≤ (kk : Int) := by omega
      have H := HA.out
      clear HA
      rw [List.drop_eq_getElem_cons hlt] at H
      simp only [impl_editBytes.p] at H
      replace H := Option.bind_eq_some_iff.mp H
      obtain ⟨b, hb, H⟩ := H
      have HP := Aside0.mk hb
      clear hb
      by_cases hLM : oo.length + b.length < 140737488355328
      · rw [if_pos hLM] at H
        have LM := Aside0.mk hLM
        obtain ⟨y7, hy7⟩ : ∃ y : List Int, y = oo ++ b := ⟨_, rfl⟩
        rw [← hy7] at H
        have Ny7 := Aside0.mk hy7
        have H' := Aside0.mk H
        clear hLM H hy7
        obtain ⟨ad, e, hx⟩ := Kd.at_int (HC.out wr HS.out.bel HF.out) (kk : Int) hk0 hltz
        cases e
        have hrd : rd l (kk : Int) = l[kk]'hlt := by unfold rd; rw [Int.toNat_natCast, List.getD_eq_getElem?_getD, List.getElem?_eq_getElem hlt]; rfl
        rw [hrd, Int.toNat_natCast] at hx
        clear hrd
        generalize l[kk]'hlt = x at hx HP
        go_wp2
        have HS5 := Aside0.mk (impl_editBytes.St.drew HS.out)
        have HF5 := Aside0.mk (impl_editBytes.Fr.drew HF.out)
        refine start_ (n := 6) (S := fun w' => w'.cell? ⟨gb, 0, none⟩ = some vv) (ds := [5]) #[false, false, false, false, false, false] (by kernel_rfl) rfl rfl ((blk_cell HS.out.box 0).trans rfl) (fun hHeld => ?_)
        generalize wr.drew = w5 at HS5 HF5 hHeld ⊢
        refine take_ (i := 0) (N := some 11) (v := ?_) (a' := ?_) #[true, false, false, false, false, false] rfl rfl (by kernel_rfl) (fun _ _ _ h => h) (Or.inl ⟨by rfl, ?_⟩) hHeld ?_ ?_
        rotate_left
        · rintro w' s0
          go_simp
          with_reducible rfl
        rotate_left
        · simp only [Act.put, List.setIfInBounds_toArray, List.set_cons_zero, List.set_cons_succ, i64_w, i32_w]
          rfl
        refine pure_ (i := 1) (N := some 12) (v := ?_) (a' := ?_) #[true, true, false, false, false, false] rfl rfl (by kernel_rfl) (fun _ _ _ h => h) (Or.inl ⟨by rfl, ?_⟩) ?_ ?_
        rotate_left
        · intro w'
          go_simp
          with_reducible rfl
        rotate_left
        · simp only [Act.put, List.setIfInBounds_toArray, List.set_cons_zero, List.set_cons_succ, i64_w, i32_w]
          rfl
        refine pure_ (i := 2) (N := some 13) (v := ?_) (a' := ?_) #[true, true, true, false, false, false] rfl rfl (by kernel_rfl) (fun _ _ _ h => h) (Or.inl ⟨by rfl, ?_⟩) ?_ ?_
        rotate_left
        · intro w'
          go_simp
          with_reducible rfl
        rotate_left
        · simp only [Act.put, List.setIfInBounds_toArray, List.set_cons_zero, List.set_cons_succ, i64_w, i32_w]
          rfl
        refine one_ (i := 3) (N := some 14) #[true, true, true, true, false, false] rfl rfl (by kernel_rfl) (by decide) (fun K hK => ?_)
        refine goes_ Try.func79 (by kernel_rfl) rfl #[.int .u64 (IntKind.u64.wrap x)] (by rfl) rfl rfl (by (try simp only [List.map_toArray, List.map_cons, List.map_nil]); first | done | rfl) ?_
        with_reducible refine (impl_PutVar.calls k (IntKind.u64.wrap x) b _ HP.out).mono ?_
        rintro e w6 ⟨vb, rfl, ho0, hb⟩
        refine ⟨_, rfl, ?_⟩
        have HS6 := Aside0.mk (HS5.out.below hb)
        have HF6 := Aside0.mk (HF5.out.below hb)
        obtain ⟨Ab, cb, eb⟩ := Kd.R_slice ho0
        subst eb
        have HOb := Aside0.mk ho0
        clear hb ho0 HS5 HF5
        refine hK.out _ _ ((blk_cell HS6.out.box 0).trans rfl) (fun hHeld => ?_)
        clear hK K
        refine norm_ (a' := ?_) ?_ ?_
        rotate_left
        · show Act.put _ (some 14) _ = _
          simp only [Act.put, List.setIfInBounds_toArray, List.set_cons_zero, List.set_cons_succ, i64_w, i32_w]
          rfl
        refine one_ (i := 4) (N := some 15) #[true, true, true, true, true, false] rfl rfl (by kernel_rfl) (by decide) (fun K hK => ?_)
        refine Kd.R_append_rows_step (Kd.int .u8) (w0 := w0) w0.heap.size (by rfl) (.tmp 11) (.tmp 14) 22 5 (.int .u8 0) 1 rfl Try.underlying22 info5 rfl (by decide) (by omega) vv oo b _ _ _ (fun _ => True) (fun _ => False) rfl rfl ?aO ?aR (fun _ _ h => h) (fun _ h => h.elim) ?aF ?aB ?aS ?aL ?_
        (case aR => exact (Kd.R_reads' HOb.out).2.2)
        (case aB => exact HS6.out.bel)
        (case aF => exact (fun _ _ => trivial))
        (case aO => exact HS6.out.row)
        (case aS => exact below_size HS6.out.bel)
        (case aL => have := LM.out; omega)
        intro v1 w7 ho hb hg7 hat
        rw [← Ny7.out] at ho
        obtain ⟨Ao1, co1, eo1⟩ := Kd.R_slice ho
        subst eo1
        have BK7 := Aside0.mk (blk_grown (g := gb) HS6.out.box hg7 (Kd.R_ne HS6.out.row HS6.out.box (by decide)))
        have HS7 := Aside0.mk (impl_editBytes.St.put BK7.out ho hb HS6.out.mine)
        have HF7 := Aside0.mk (impl_editBytes.Fr.set (impl_editBytes.Fr.grown HF6.out HS6.out.row hg7) BK7.out 0 (.slice Ao1 y7.length co1))
        have hc7 : w7.cell? ⟨gb, 0, none⟩ = some vv := (blk_cell BK7.out 0).trans rfl
        have hf7 : w7.frozen? ⟨gb, 0, none⟩ = false := blk_frozen BK7.out 0
        clear ho hb hg7 hat HS6 HF6
        refine hK.out _ _ hc7 (fun hHeld => ?_)
        clear hK K
        refine norm_ (a' := ?_) ?_ ?_
        rotate_left
        · show Act.put _ (some 15) _ = _
          simp only [Act.put, List.setIfInBounds_toArray, List.set_cons_zero, List.set_cons_succ, i64_w, i32_w]
          rfl
        refine last_ (i := 5) (N := none) #[true, true, true, true, true, true] rfl rfl (by kernel_rfl) (by decide) (fun K hK => ?_)
        refine skip_ (w1 := ?_) (by rfl) rfl ?_ ?_
        rotate_left
        · go_simp
          rfl
        refine hK.out _ _ ?_
        clear hK K
        refine done_ (by kernel_rfl) ?_
        clear hHeld hc7 hf7
        go_wp2
        go_roundg (l.length - (kk + 1))
        case measure => omega
        case rel => exact ⟨kk + 1, _, y7, by omega, by omega, by go_num, H', ⟨by repeat (first | exact HS7.out | apply impl_editBytes.St.drewN | apply impl_editBytes.St.drew)⟩, ⟨by repeat (first | exact HF7.out | apply impl_editBytes.Fr.drewN | apply impl_editBytes.Fr.drew)⟩⟩
      · rw [if_neg hLM] at H
        cases H
    · have hltz : ¬ (kk : Int) < (l.length : Int) := by omega
      have : kk = l.length := by omega
      subst this
      have H := HA.out
      rw [List.drop_length] at H
      have ho : oo = r := by simpa [impl_editBytes.p] using H
      subst ho
      clear H HA
      go_wp2
      go_end0
      exact ⟨by first | rfl | (simp; done), ⟨vv, by repeat (first | exact HS.out | apply impl_editBytes.St.drewN | apply impl_editBytes.St.drew), by repeat (first | exact HF.out | apply impl_editBytes.Fr.drewN | apply impl_editBytes.Fr.drew)⟩⟩
theorem impl_editBytes.St.far {w0 W : World} {gb ga : Nat} {v : Value} {out : List Int} (h : impl_editBytes.St w0 W gb v out) {cs : Array Value} (hb : W.heap[ga]? = some (.cells cs 75 (0, 0))) (hm : w0.heap.size ≤ ga) (j : Nat) (u : Value) : impl_editBytes.St w0 (W.setCell ⟨ga, j, none⟩ u) gb v out :=
  ⟨blk_far h.box (blk_ne h.box hb (by decide)) u, Kd.R_set h.row hb (by decide) j u, below_set h.bel hm, h.mine⟩
theorem impl_editBytes.set5 {w0 W : World} {gb ga : Nat} {v : Value} {out : List Int} {c0 c1 c2 c3 c4 : Value} (h : impl_editBytes.St w0 W gb v out) (hb : W.heap[ga]? = some (.cells #[c0, c1, c2, c3, c4] 75 (0, 0))) (hm : w0.heap.size ≤ ga) (x0 x1 x4 : Int) (x2 x3 : ByteArray) :
    impl_editBytes.St w0 (((((W.setCell ⟨ga, 0, none⟩ (.int .i64 x0)).setCell ⟨ga, 1, none⟩ (.int .i64 x1)).setCell ⟨ga, 2, none⟩ (.string x2)).setCell ⟨ga, 3, none⟩ (.string x3)).setCell ⟨ga, 4, none⟩ (.int .i64 x4)) gb v out ∧ (((((W.setCell ⟨ga, 0, none⟩ (.int .i64 x0)).setCell ⟨ga, 1, none⟩ (.int .i64 x1)).setCell ⟨ga, 2, none⟩ (.string x2)).setCell ⟨ga, 3, none⟩ (.string x3)).setCell ⟨ga, 4, none⟩ (.int .i64 x4)).heap[ga]? = some (.cells #[.int .i64 x0, .int .i64 x1, .string x2, .string x3, .int .i64 x4] 75 (0, 0)) := by
  have b1 := blk_put hb 0 (.int .i64 x0) rfl
  have b2 := blk_put b1 1 (.int .i64 x1) rfl
  have b3 := blk_put b2 2 (.string x2) rfl
  have b4 := blk_put b3 3 (.string x3) rfl
  have b5 := blk_put b4 4 (.int .i64 x4) rfl
  exact ⟨((((h.far hb hm 0 _).far b1 hm 1 _).far b2 hm 2 _).far b3 hm 3 _).far b4 hm 4 _, b5⟩
theorem impl_editBytes.ints4 (W : World) (base : Nat) (ok : Nat → Prop) (a b c d : Int) : Reps ((Kd.int .i64).M W base ok) (Kd.int .i64).sz [a, b, c, d] [.int .i64 a, .int .i64 b, .int .i64 c, .int .i64 d] := Reps.one (show Kd.M (Kd.int .i64) _ _ _ a [.int .i64 a] from rfl) (Reps.one (show Kd.M (Kd.int .i64) _ _ _ b [.int .i64 b] from rfl) (Reps.one (show Kd.M (Kd.int .i64) _ _ _ c [.int .i64 c] from rfl) (Reps.one (show Kd.M (Kd.int .i64) _ _ _ d [.int .i64 d] from rfl) (Reps.none _ _))))
theorem impl_editBytes.ints3 (W : World) (base : Nat) (ok : Nat → Prop) (a b c : Int) : Reps ((Kd.int .i64).M W base ok) (Kd.int .i64).sz [a, b, c] [.int .i64 a, .int .i64 b, .int .i64 c] := Reps.one (show Kd.M (Kd.int .i64) _ _ _ a [.int .i64 a] from rfl) (Reps.one (show Kd.M (Kd.int .i64) _ _ _ b [.int .i64 b] from rfl) (Reps.one (show Kd.M (Kd.int .i64) _ _ _ c [.int .i64 c] from rfl) (Reps.none _ _)))
theorem impl_editBytes.ints1 (W : World) (base : Nat) (ok : Nat → Prop) (a : Int) : Reps ((Kd.int .i64).M W base ok) (Kd.int .i64).sz [a] [.int .i64 a] := Reps.one (show Kd.M (Kd.int .i64) _ _ _ a [.int .i64 a] from rfl) (Reps.none _ _)
set_option maxHeartbeats 8000000 in
set_option maxRecDepth 100000 in
theorem impl_editBytes.calls (k : Nat) (a0_0 : Int) (a0_1 : Int) (a0_2 : Int) (A0_3 : Option Addr) (c0_3 : Nat) (l0_3 : List Int) (A0_4 : Option Addr) (c0_4 : Nat) (l0_4 : List (S75)) (r : List Int) (w : World) (hr0_3 : Kd.C (Kd.int .i64) w A0_3 l0_3.length l0_3) (hc0_3 : l0_3.length ≤ c0_3) (hr0_4 : Kd.C k75 w A0_4 l0_4.length l0_4) (hc0_4 : l0_4.length ≤ c0_4) (h : impl_editBytes.f k a0_0 a0_1 a0_2 l0_3 l0_4 = some r) :
    Calls Try.prog 43 #[.agg #[.int .i64 a0_0, .int .i64 a0_1, .int .i64 a0_2, .slice A0_3 l0_3.length c0_3, .slice A0_4 l0_4.length c0_4]] w fun e w' => ∃ v0_ : Value, e = .returned (v0_) ∧ Kd.R (Kd.int .u8) 5 w' w.heap.size (fun _ => True) v0_ r ∧ Below w.heap.size w w' := by
  have hu43 := Try.underlying26
  have hu86 := Try.underlying75
  have hu60 := Try.underlying73
  have hlen : l0_4.length ≤ 9223372036854775807 := hr0_4.2.1
  have HR3 := Aside0.mk hr0_3
  have HC3 := Aside0.mk hc0_3
  have HR4 := Aside0.mk hr0_4
  have HC4 := Aside0.mk hc0_4
  clear hr0_3 hc0_3 hr0_4 hc0_4
  unfold impl_editBytes.f at h
  replace h := Option.bind_eq_some_iff.mp h
  obtain ⟨o1, h1, h⟩ := h
  replace h := Option.bind_eq_some_iff.mp h
  obtain ⟨o2, h2, h⟩ := h
  replace h := Option.bind_eq_some_iff.mp h
  obtain ⟨o3, h3, h⟩ := h
  obtain ⟨y0, hy0⟩ : ∃ y : List Int, y = [] := ⟨_, rfl⟩
  obtain ⟨y1, hy1⟩ : ∃ y : List Int, y = [a0_0, a0_1, a0_2, (l0_3.length : Int)] := ⟨_, rfl⟩
  obtain ⟨y3, hy3⟩ : ∃ y : List Int, y = [(l0_4.length : Int)] := ⟨_, rfl⟩
  rw [← hy1, ← hy0] at h1
  rw [← hy3] at h3
  have Ny0 := Aside0.mk hy0
  have Ny1 := Aside0.mk hy1
  have Ny3 := Aside0.mk hy3
  have P1 := Aside0.mk h1
  have P2 := Aside0.mk h2
  have P3 := Aside0.mk h3
  have H' := Aside0.mk h
  clear h h1 h2 h3 hy0 hy1 hy3
  have HB := Aside0.mk (Below.refl w.heap.size w)
  go_enter Try.func43, Try.ntmps43
  go_wp2_with (first | ((with_reducible refine gate_dst (N := 1) rfl ?_); refine box_event ?hg (N := 1) ?hd (cs := #[.int .i64 a0_0, .int .i64 a0_1, .int .i64 a0_2, .slice A0_3 l0_3.length c0_3, .slice A0_4 l0_4.length c0_4]) (t := 26) ?hr ?_; (case hd => rfl); (case hg => rfl); (case hr => first | (go_simp; done) | (go_simp; rfl)); intro ge hg w2 hbox hb; have HB2 := Aside0.mk (below_step (by repeat (first | exact HB.out | apply below_alloc | apply pw_below_drewN | apply below_drew1)) hb); have BE2 := Aside0.mk hbox; clear hb hbox hg) | ((with_reducible refine gate_dst (N := 7) rfl ?_); refine Kd.R_lit (Kd.int .u8) _ 5 ?hg (N := 7) ?hd (xs := ([] : List Int)) (inner := []) (ok := fun _ => True) (okp := fun _ => True) ?hr ?hp (fun _ hk => hk) trivial (Below.refl _ _) (Nat.le_refl _) (by simp) ?_; (case hd => rfl); (case hg => rfl); (case hr => first | (go_simp; done) | (go_simp; rfl)); (case hp => exact (Reps.none _ _)); intro v3 w3 ho3 hb hg_ hnew_; clear hg_ hnew_; rw [← Ny0.out] at ho3; have HO3 := Aside0.mk (Kd.R_lower ho3 (below_size (by repeat (first | exact HB2.out | apply below_alloc | apply pw_below_drewN | apply below_drew1)))); have BE3 := Aside0.mk (blk_below (g := ge) (by (with_reducible repeat (first | refine blk_drewN ?_ _ | refine blk_drew ?_)); exact BE2.out) hb); have HB3 := Aside0.mk (below_step (by repeat (first | exact HB2.out | apply below_alloc | apply pw_below_drewN | apply below_drew1)) hb); clear hb ho3; obtain ⟨Ao3, co3, eo3⟩ := Kd.R_slice HO3.out; subst eo3) | ((with_reducible refine gate_dst (N := 3) rfl ?_); refine box_event ?hg (N := 3) ?hd (cs := #[.slice none 0 0]) (t := 22) ?hr ?_; (case hd => rfl); (case hg => rfl); (case hr => first | (go_simp; done) | (go_simp; rfl)); intro gb hg w4 hbox hb; have GE := Aside0.mk ((by rw [hg]; exact below_size (by repeat (first | exact HB3.out | apply below_alloc | apply pw_below_drewN | apply below_drew1))) : w.heap.size ≤ gb); have BX4 := Aside0.mk hbox; have HO4 := Aside0.mk (Kd.R_below (by (with_reducible repeat (first | apply Kd.R_alloc | apply Kd.R_drewN | apply Kd.R_drew)); exact HO3.out) hb); have BE4 := Aside0.mk (blk_below (g := ge) (by (with_reducible repeat (first | refine blk_drewN ?_ _ | refine blk_drew ?_)); exact BE3.out) hb); have HB4 := Aside0.mk (below_step (by repeat (first | exact HB3.out | apply below_alloc | apply pw_below_drewN | apply below_drew1)) hb); clear hb hbox hg; have hcb4 : w4.cell? ⟨gb, 0, none⟩ = some (.slice none 0 0) := (blk_cell BX4.out 0).trans rfl; have hfb4 : w4.frozen? ⟨gb, 0, none⟩ = false := blk_frozen BX4.out 0) | ((with_reducible refine gate_store (t := 22) (p := 3) rfl ?_); refine store_event (t := 22) (p := 3) (v := ?vo_1) (w1 := w4.setCell ⟨gb, 0, none⟩ (.slice Ao3 y0.length co3)) ?hg ?ho ?hn ?hr ?_; (case ho => rfl); (case hg => rfl); (case hn => rfl); (case hr => first | (go_simp; done) | (go_simp; rfl)); intro w5 hw; have HS5 := Aside0.mk ((by rw [hw]; exact impl_editBytes.St.put BX4.out HO4.out HB4.out GE.out) : impl_editBytes.St w w5 gb (.slice Ao3 y0.length co3) y0); have BE5 := Aside0.mk ((by rw [hw]; exact blk_far BE4.out (blk_ne BE4.out BX4.out (by decide)) _) : w5.heap[ge]? = some (.cells #[.int .i64 a0_0, .int .i64 a0_1, .int .i64 a0_2, .slice A0_3 l0_3.length c0_3, .slice A0_4 l0_4.length c0_4] 26 (0, 0))); clear hw hcb4 hfb4; have hce0 : w5.cell? ⟨ge, 0, none⟩ = some (.int .i64 a0_0) := (blk_cell BE5.out 0).trans rfl; have hce1 : w5.cell? ⟨ge, 1, none⟩ = some (.int .i64 a0_1) := (blk_cell BE5.out 1).trans rfl; have hce2 : w5.cell? ⟨ge, 2, none⟩ = some (.int .i64 a0_2) := (blk_cell BE5.out 2).trans rfl; have hce3 : w5.cell? ⟨ge, 3, none⟩ = some (.slice A0_3 l0_3.length c0_3) := (blk_cell BE5.out 3).trans rfl) | ((with_reducible refine gate_dst (N := 19) rfl ?_); refine Kd.R_lit (Kd.int .i64) _ 3 ?hg (N := 19) ?hd (xs := [a0_0, a0_1, a0_2, (l0_3.length : Int)]) (inner := [.int .i64 a0_0, .int .i64 a0_1, .int .i64 a0_2, .int .i64 (l0_3.length : Int)]) (ok := fun _ => True) (okp := fun _ => True) ?hr ?hp (fun _ hk => hk) trivial (Below.refl _ _) (Nat.le_refl _) (by simp) ?_; (case hd => rfl); (case hg => rfl); (case hr => first | (go_simp; done) | (go_simp; rfl)); (case hp => exact impl_editBytes.ints4 _ _ _ _ _ _ _); intro v6 w6 ho6 hb hg_ hnew_; clear hg_ hnew_; rw [← Ny1.out] at ho6; have HO6 := Aside0.mk ho6; have HS6 := Aside0.mk ((by repeat (first | exact HS5.out | apply impl_editBytes.St.drewN | apply impl_editBytes.St.drew) : impl_editBytes.St w _ gb (.slice Ao3 y0.length co3) y0).below hb); have BE6 := Aside0.mk (blk_below (g := ge) (by (with_reducible repeat (first | refine blk_drewN ?_ _ | refine blk_drew ?_)); exact BE5.out) hb); clear hb ho6 hce0 hce1 hce2 hce3; obtain ⟨Ao6, co6, eo6⟩ := Kd.R_slice HO6.out; subst eo6) | (go_at_call 78; (with_reducible refine (impl_editBytes.put k y1 y0 o1 Ao6 co6 gb (.slice Ao3 y0.length co3) w _ ?s1 ?s2 ?s3 P1.out).mono ?_); (case s1 => exact (Kd.R_reads' HO6.out).2.1); (case s2 => exact fun W _ hF => impl_editBytes.lit HO6.out hF); (case s3 => exact HS6.out); rintro e w7 ⟨rfl, v7, hs7, hf7⟩; have HS7 := Aside0.mk hs7; have BE7 := Aside0.mk (hf7.2 ge _ 26 BE6.out (by decide) (by decide)); clear hs7 hf7; have hcf3 : w7.cell? ⟨ge, 3, none⟩ = some (.slice A0_3 l0_3.length c0_3) := (blk_cell BE7.out 3).trans rfl) | (go_at_call 78; (with_reducible refine (impl_editBytes.put k l0_3 o1 o2 A0_3 c0_3 gb v7 w _ ?s1 ?s2 ?s3 P2.out).mono ?_); (case s1 => exact HC3.out); (case s2 => exact fun W hB _ => Kd.C_below HR3.out hB); (case s3 => exact HS7.out); rintro e w8 ⟨rfl, v8, hs8, hf8⟩; have HS8 := Aside0.mk hs8; have BE8 := Aside0.mk (hf8.2 ge _ 26 BE7.out (by decide) (by decide)); clear hs8 hf8 hcf3; have hcg4 : w8.cell? ⟨ge, 4, none⟩ = some (.slice A0_4 l0_4.length c0_4) := (blk_cell BE8.out 4).trans rfl) | ((with_reducible refine gate_dst (N := 29) rfl ?_); refine Kd.R_lit (Kd.int .i64) _ 3 ?hg (N := 29) ?hd (xs := [(l0_4.length : Int)]) (inner := [.int .i64 (l0_4.length : Int)]) (ok := fun _ => True) (okp := fun _ => True) ?hr ?hp (fun _ hk => hk) trivial (Below.refl _ _) (Nat.le_refl _) (by simp) ?_; (case hd => rfl); (case hg => rfl); (case hr => first | (go_simp; done) | (go_simp; rfl)); (case hp => exact impl_editBytes.ints1 _ _ _ _); intro v9 w9 ho9 hb hg_ hnew_; clear hg_ hnew_; rw [← Ny3.out] at ho9; have HO9 := Aside0.mk ho9; have HS9 := Aside0.mk ((by repeat (first | exact HS8.out | apply impl_editBytes.St.drewN | apply impl_editBytes.St.drew) : impl_editBytes.St w _ gb v8 o2).below hb); have BE9 := Aside0.mk (blk_below (g := ge) (by (with_reducible repeat (first | refine blk_drewN ?_ _ | refine blk_drew ?_)); exact BE8.out) hb); clear hb ho9 hcg4; obtain ⟨Ao9, co9, eo9⟩ := Kd.R_slice HO9.out; subst eo9) | (go_at_call 78; (with_reducible refine (impl_editBytes.put k y3 o2 o3 Ao9 co9 gb v8 w _ ?s1 ?s2 ?s3 P3.out).mono ?_); (case s1 => exact (Kd.R_reads' HO9.out).2.1); (case s2 => exact fun W _ hF => impl_editBytes.lit HO9.out hF); (case s3 => exact HS9.out); rintro e w10 ⟨rfl, v10, hs10, hf10⟩; have HS10 := Aside0.mk hs10; have BE10 := Aside0.mk (hf10.2 ge _ 26 BE9.out (by decide) (by decide)); clear hs10 hf10; have hch4 : w10.cell? ⟨ge, 4, none⟩ = some (.slice A0_4 l0_4.length c0_4) := (blk_cell BE10.out 4).trans rfl))
  go_loopg [34] l0_4.length (fun gg v34 w' => ∃ (kk : Nat) (vv : Value) (oo : List Int), kk ≤ l0_4.length ∧ l0_4.length - kk ≤ gg ∧ v34 = .int .i64 kk ∧ Aside0 (impl_editBytes.a k (l0_4.drop kk) oo = some r) ∧ Aside0 (impl_editBytes.St w w' gb vv oo))
  case atStart => exact ⟨0, v10, o3, Nat.zero_le _, by omega, rfl, H', ⟨by repeat (first | exact HS10.out | apply impl_editBytes.St.drewN | apply impl_editBytes.St.drew)⟩⟩
  case round =>
    clear H' hch4
    obtain ⟨kk, vv, oo, hkk, hg, rfl, HA, HS⟩ := hrel
    by_cases hlt : kk < l0_4.length
    · have hltz : (kk : Int) < (l0_4.length : Int) := by omega
      have hk0 : (0 : Int) ≤ (kk : Int) := by omega
      have H := HA.out
      clear HA
      rw [List.drop_eq_getElem_cons hlt] at H
      simp only [impl_editBytes.a] at H
      have hrd : rd_T75 l0_4 (kk : Int) = l0_4[kk]'hlt := by unfold rd_T75; rw [Int.toNat_natCast, List.getD_eq_getElem?_getD, List.getElem?_eq_getElem hlt]; rfl
      obtain ⟨ad, e, hx0, hx1, hx2, hx3, hx4⟩ := at_T75 (Kd.C_below HR4.out HS.out.bel) (kk : Int) hk0 hltz
      cases e
      rw [hrd] at hx0 hx1 hx2 hx3 hx4
      rw [Int.toNat_natCast] at hx0 hx1 hx2 hx3 hx4
      clear hrd
      generalize l0_4[kk]'hlt = x at H hx0 hx1 hx2 hx3 hx4
      obtain ⟨x0, ⟨x1, x2, x3, x4⟩⟩ := x
      simp only at H hx0 hx1 hx2 hx3 hx4
      obtain ⟨y5, hy5⟩ : ∃ y : List Int, y = [x0, x1, x4] := ⟨_, rfl⟩
      rw [← hy5] at H
      have Ny5 := Aside0.mk hy5
      clear hy5
      replace H := Option.bind_eq_some_iff.mp H
      obtain ⟨o, h1, H⟩ := H
      replace H := Option.bind_eq_some_iff.mp H
      obtain ⟨b, h2, H⟩ := H
      replace H := Option.bind_eq_some_iff.mp H
      obtain ⟨c, h3, H⟩ := H
      have Q1 := Aside0.mk h1
      have Q2 := Aside0.mk h2
      have Q3 := Aside0.mk h3
      clear h1 h2 h3
      by_cases hLM : o.length + b.length + c.length < 140737488355328
      · rw [if_pos hLM] at H
        have LM := Aside0.mk hLM
        obtain ⟨y8, hy8⟩ : ∃ y : List Int, y = o ++ b := ⟨_, rfl⟩
        rw [← hy8] at H
        obtain ⟨y9, hy9⟩ : ∃ y : List Int, y = y8 ++ c := ⟨_, rfl⟩
        rw [← hy9] at H
        have Ny8 := Aside0.mk hy8
        have Ny9 := Aside0.mk hy9
        have L8 := Aside0.mk (show y8.length = o.length + b.length by rw [hy8, List.length_append])
        have H' := Aside0.mk H
        clear hLM H hy8 hy9
        go_wp2_with (first | ((with_reducible refine gate_dst (N := 6) rfl ?_); refine box_event ?hg (N := 6) ?hd (cs := #[.int .i64 0, .int .i64 0, .string (⟨#[]⟩ : ByteArray), .string (⟨#[]⟩ : ByteArray), .int .i64 0]) (t := 75) ?hr ?_; (case hd => rfl); (case hg => rfl); (case hr => first | (go_simp; done) | (go_simp; rfl)); intro ga hga w2 hbox hb; have HS2 := Aside0.mk ((by repeat (first | exact HS.out | apply impl_editBytes.St.drewN | apply impl_editBytes.St.drew) : impl_editBytes.St w _ gb vv oo).below hb); have BA2 := Aside0.mk hbox; have GA2 := Aside0.mk ((by rw [hga]; exact below_size (by repeat (first | exact HS.out.bel | apply below_alloc | apply pw_below_drewN | apply below_drew1))) : w.heap.size ≤ ga); clear hb hbox hga hx0 hx1 hx2 hx3 hx4; have hca0 : w2.cell? ⟨ga, 0, none⟩ = some (.int .i64 0) := (blk_cell BA2.out 0).trans rfl; have hca1 : w2.cell? ⟨ga, 1, none⟩ = some (.int .i64 0) := (blk_cell BA2.out 1).trans rfl; have hca2 : w2.cell? ⟨ga, 2, none⟩ = some (.string (⟨#[]⟩ : ByteArray)) := (blk_cell BA2.out 2).trans rfl; have hca3 : w2.cell? ⟨ga, 3, none⟩ = some (.string (⟨#[]⟩ : ByteArray)) := (blk_cell BA2.out 3).trans rfl; have hca4 : w2.cell? ⟨ga, 4, none⟩ = some (.int .i64 0) := (blk_cell BA2.out 4).trans rfl; have hfa0 := blk_frozen BA2.out 0; have hfa1 := blk_frozen BA2.out 1; have hfa2 := blk_frozen BA2.out 2; have hfa3 := blk_frozen BA2.out 3; have hfa4 := blk_frozen BA2.out 4) | ((with_reducible refine gate_store (t := 75) (p := 6) rfl ?_); refine store_event (t := 75) (p := 6) (v := ?vo_2) (w1 := ((((w2.setCell ⟨ga, 0, none⟩ (.int .i64 x0)).setCell ⟨ga, 1, none⟩ (.int .i64 x1)).setCell ⟨ga, 2, none⟩ (.string x2)).setCell ⟨ga, 3, none⟩ (.string x3)).setCell ⟨ga, 4, none⟩ (.int .i64 x4)) ?hg ?ho ?hn ?hr ?_; (case ho => rfl); (case hg => rfl); (case hn => rfl); (case hr => first | (go_simp; done) | (go_simp; rfl)); intro w3 hw; have HSA := Aside0.mk ((by rw [hw]; exact impl_editBytes.set5 HS2.out BA2.out GA2.out x0 x1 x4 x2 x3) : impl_editBytes.St w w3 gb vv oo ∧ w3.heap[ga]? = some (.cells #[.int .i64 x0, .int .i64 x1, .string x2, .string x3, .int .i64 x4] 75 (0, 0))); have HS3 := Aside0.mk HSA.out.1; have BA3 := Aside0.mk HSA.out.2; clear hw HSA hca0 hca1 hca2 hca3 hca4 hfa0 hfa1 hfa2 hfa3 hfa4; have hcb0 : w3.cell? ⟨ga, 0, none⟩ = some (.int .i64 x0) := (blk_cell BA3.out 0).trans rfl; have hcb1 : w3.cell? ⟨ga, 1, none⟩ = some (.int .i64 x1) := (blk_cell BA3.out 1).trans rfl; have hcb4 : w3.cell? ⟨ga, 4, none⟩ = some (.int .i64 x4) := (blk_cell BA3.out 4).trans rfl) | ((with_reducible refine gate_dst (N := 47) rfl ?_); refine Kd.R_lit (Kd.int .i64) _ 3 ?hg (N := 47) ?hd (xs := [x0, x1, x4]) (inner := [.int .i64 x0, .int .i64 x1, .int .i64 x4]) (ok := fun _ => True) (okp := fun _ => True) ?hr ?hp (fun _ hk => hk) trivial (Below.refl _ _) (Nat.le_refl _) (by simp) ?_; (case hd => rfl); (case hg => rfl); (case hr => first | (go_simp; done) | (go_simp; rfl)); (case hp => exact impl_editBytes.ints3 _ _ _ _ _ _); intro v6 w6 ho6 hb hg_ hnew_; clear hg_ hnew_; rw [← Ny5.out] at ho6; have HO6 := Aside0.mk ho6; have HS6 := Aside0.mk ((by repeat (first | exact HS3.out | apply impl_editBytes.St.drewN | apply impl_editBytes.St.drew) : impl_editBytes.St w _ gb vv oo).below hb); have BA6 := Aside0.mk (blk_below (g := ga) (by (with_reducible repeat (first | refine blk_drewN ?_ _ | refine blk_drew ?_)); exact BA3.out) hb); clear hb ho6 hcb0 hcb1 hcb4; obtain ⟨Ao6, co6, eo6⟩ := Kd.R_slice HO6.out; subst eo6) | (go_at_call 78; (with_reducible refine (impl_editBytes.put k y5 oo o Ao6 co6 gb vv w _ ?s1 ?s2 ?s3 Q1.out).mono ?_); (case s1 => exact (Kd.R_reads' HO6.out).2.1); (case s2 => exact fun W _ hF => impl_editBytes.lit HO6.out hF); (case s3 => exact HS6.out); rintro e w7 ⟨rfl, v7, hs7, hf7⟩; have HS7 := Aside0.mk hs7; have BA7 := Aside0.mk (hf7.2 ga _ 75 BA6.out (by decide) (by decide)); clear hs7 hf7))
        have HS8 := Aside0.mk (impl_editBytes.St.drew HS7.out)
        have BA8 := Aside0.mk (blk_drew BA7.out)
        clear HS7 BA7
        refine start_ (n := 12) (S := fun w' => w'.cell? ⟨gb, 0, none⟩ = some v7 ∧ w'.cell? ⟨ga, 2, none⟩ = some (.string x2) ∧ w'.cell? ⟨ga, 3, none⟩ = some (.string x3)) (ds := [11]) #[false, false, false, false, false, false, false, false, false, false, false, false] (by kernel_rfl) rfl rfl ⟨(blk_cell HS8.out.box 0).trans rfl, (blk_cell BA8.out 2).trans rfl, (blk_cell BA8.out 3).trans rfl⟩ (fun hHeld => ?_)
        generalize w7.drew = w8 at HS8 BA8 hHeld ⊢
        refine take_ (i := 0) (N := some 49) (v := ?_) (a' := ?_) #[true, false, false, false, false, false, false, false, false, false, false, false] rfl rfl (by kernel_rfl) (fun _ _ _ h => h) (Or.inl ⟨by rfl, ?_⟩) hHeld ?_ ?_
        rotate_left
        · rintro w' ⟨s0, s1, s2⟩
          go_simp
          with_reducible rfl
        rotate_left
        · simp only [Act.put, List.setIfInBounds_toArray, List.set_cons_zero, List.set_cons_succ, i64_w, i32_w]
          rfl
        refine pure_ (i := 1) (N := some 50) (v := ?_) (a' := ?_) #[true, true, false, false, false, false, false, false, false, false, false, false] rfl rfl (by kernel_rfl) (fun _ _ _ h => h) (Or.inl ⟨by rfl, ?_⟩) ?_ ?_
        rotate_left
        · intro w'
          go_simp
          with_reducible rfl
        rotate_left
        · simp only [Act.put, List.setIfInBounds_toArray, List.set_cons_zero, List.set_cons_succ, i64_w, i32_w]
          rfl
        refine pure_ (i := 2) (N := some 51) (v := ?_) (a' := ?_) #[true, true, true, false, false, false, false, false, false, false, false, false] rfl rfl (by kernel_rfl) (fun _ _ _ h => h) (Or.inl ⟨by rfl, ?_⟩) ?_ ?_
        rotate_left
        · intro w'
          go_simp
          with_reducible rfl
        rotate_left
        · simp only [Act.put, List.setIfInBounds_toArray, List.set_cons_zero, List.set_cons_succ, i64_w, i32_w]
          rfl
        refine take_ (i := 3) (N := some 52) (v := ?_) (a' := ?_) #[true, true, true, true, false, false, false, false, false, false, false, false] rfl rfl (by kernel_rfl) (fun _ _ _ h => h) (Or.inl ⟨by rfl, ?_⟩) hHeld ?_ ?_
        rotate_left
        · rintro w' ⟨s0, s1, s2⟩
          go_simp
          with_reducible rfl
        rotate_left
        · simp only [Act.put, List.setIfInBounds_toArray, List.set_cons_zero, List.set_cons_succ, i64_w, i32_w]
          rfl
        refine pure_ (i := 6) (N := some 55) (v := ?_) (a' := ?_) #[true, true, true, true, false, false, true, false, false, false, false, false] rfl rfl (by kernel_rfl) (fun _ _ _ h => h) (Or.inl ⟨by rfl, ?_⟩) ?_ ?_
        rotate_left
        · intro w'
          go_simp
          with_reducible rfl
        rotate_left
        · simp only [Act.put, List.setIfInBounds_toArray, List.set_cons_zero, List.set_cons_succ, i64_w, i32_w]
          rfl
        refine pure_ (i := 7) (N := some 56) (v := ?_) (a' := ?_) #[true, true, true, true, false, false, true, true, false, false, false, false] rfl rfl (by kernel_rfl) (fun _ _ _ h => h) (Or.inl ⟨by rfl, ?_⟩) ?_ ?_
        rotate_left
        · intro w'
          go_simp
          with_reducible rfl
        rotate_left
        · simp only [Act.put, List.setIfInBounds_toArray, List.set_cons_zero, List.set_cons_succ, i64_w, i32_w]
          rfl
        refine take_ (i := 8) (N := some 57) (v := ?_) (a' := ?_) #[true, true, true, true, false, false, true, true, true, false, false, false] rfl rfl (by kernel_rfl) (fun _ _ _ h => h) (Or.inl ⟨by rfl, ?_⟩) hHeld ?_ ?_
        rotate_left
        · rintro w' ⟨s0, s1, s2⟩
          go_simp
          with_reducible rfl
        rotate_left
        · simp only [Act.put, List.setIfInBounds_toArray, List.set_cons_zero, List.set_cons_succ, i64_w, i32_w]
          rfl
        refine one_ (i := 4) (N := some 53) #[true, true, true, true, true, false, true, true, true, false, false, false] rfl rfl (by kernel_rfl) (by decide) (fun K hK => ?_)
        refine goes_ Try.func80 (by kernel_rfl) rfl #[.string x2] (by rfl) rfl rfl (by (try simp only [List.map_toArray, List.map_cons, List.map_nil]); first | done | rfl) ?_
        with_reducible refine (impl_sized.calls k x2 b _ Q2.out).mono ?_
        rintro e w9 ⟨vb, rfl, ho0, hb⟩
        refine ⟨_, rfl, ?_⟩
        have HS9 := Aside0.mk (HS8.out.below hb)
        have BA9 := Aside0.mk (blk_below BA8.out hb)
        obtain ⟨Ab, cb, eb⟩ := Kd.R_slice ho0
        subst eb
        have HOb := Aside0.mk ho0
        clear hb ho0 HS8 BA8
        refine hK.out _ _ ⟨(blk_cell HS9.out.box 0).trans rfl, (blk_cell BA9.out 2).trans rfl, (blk_cell BA9.out 3).trans rfl⟩ (fun hHeld => ?_)
        clear hK K
        refine norm_ (a' := ?_) ?_ ?_
        rotate_left
        · show Act.put _ (some 53) _ = _
          simp only [Act.put, List.setIfInBounds_toArray, List.set_cons_zero, List.set_cons_succ, i64_w, i32_w]
          rfl
        refine one_ (i := 5) (N := some 54) #[true, true, true, true, true, true, true, true, true, false, false, false] rfl rfl (by kernel_rfl) (by decide) (fun K hK => ?_)
        refine Kd.R_append_rows_step (Kd.int .u8) (w0 := w) w.heap.size (by rfl) (.tmp 49) (.tmp 53) 22 5 (.int .u8 0) 1 rfl Try.underlying22 info5 rfl (by decide) (by omega) v7 o b _ _ _ (fun _ => True) (fun _ => False) rfl rfl ?aO ?aR (fun _ _ h => h) (fun _ h => h.elim) ?aF ?aB ?aS ?aL ?_
        (case aR => exact (Kd.R_reads' HOb.out).2.2)
        (case aB => exact HS9.out.bel)
        (case aF => exact (fun _ _ => trivial))
        (case aO => exact HS9.out.row)
        (case aS => exact below_size HS9.out.bel)
        (case aL => have := LM.out; omega)
        intro v10 w10 ho hb hg10 hat
        rw [← Ny8.out] at ho
        obtain ⟨Ao10, co10, eo10⟩ := Kd.R_slice ho
        subst eo10
        have BK10 := Aside0.mk (blk_grown (g := gb) HS9.out.box hg10 (Kd.R_ne HS9.out.row HS9.out.box (by decide)))
        have BA10 := Aside0.mk (blk_grown (g := ga) BA9.out hg10 (Kd.R_ne HS9.out.row BA9.out (by decide)))
        have HO10 := Aside0.mk ho
        have HB10 := Aside0.mk hb
        have GB := Aside0.mk HS9.out.mine
        clear ho hb hg10 hat HS9 BA9 HOb
        refine hK.out _ _ ⟨(blk_cell BK10.out 0).trans rfl, (blk_cell BA10.out 2).trans rfl, (blk_cell BA10.out 3).trans rfl⟩ (fun hHeld => ?_)
        clear hK K
        refine norm_ (a' := ?_) ?_ ?_
        rotate_left
        · show Act.put _ (some 54) _ = _
          simp only [Act.put, List.setIfInBounds_toArray, List.set_cons_zero, List.set_cons_succ, i64_w, i32_w]
          rfl
        refine one_ (i := 9) (N := some 58) #[true, true, true, true, true, true, true, true, true, true, false, false] rfl rfl (by kernel_rfl) (by decide) (fun K hK => ?_)
        refine goes_ Try.func80 (by kernel_rfl) rfl #[.string x3] (by rfl) rfl rfl (by (try simp only [List.map_toArray, List.map_cons, List.map_nil]); first | done | rfl) ?_
        with_reducible refine (impl_sized.calls k x3 c _ Q3.out).mono ?_
        rintro e w11 ⟨vc, rfl, ho0, hb⟩
        refine ⟨_, rfl, ?_⟩
        have BK11 := Aside0.mk (blk_below BK10.out hb)
        have BA11 := Aside0.mk (blk_below BA10.out hb)
        have HO11 := Aside0.mk (Kd.R_below HO10.out hb)
        have HB11 := Aside0.mk (below_step HB10.out hb)
        obtain ⟨Ac, cc, ec⟩ := Kd.R_slice ho0
        subst ec
        have HOc := Aside0.mk ho0
        clear hb ho0 BK10 BA10 HO10 HB10
        refine hK.out _ _ ⟨(blk_cell BK11.out 0).trans rfl, (blk_cell BA11.out 2).trans rfl, (blk_cell BA11.out 3).trans rfl⟩ (fun hHeld => ?_)
        clear hK K
        refine norm_ (a' := ?_) ?_ ?_
        rotate_left
        · show Act.put _ (some 58) _ = _
          simp only [Act.put, List.setIfInBounds_toArray, List.set_cons_zero, List.set_cons_succ, i64_w, i32_w]
          rfl
        refine one_ (i := 10) (N := some 59) #[true, true, true, true, true, true, true, true, true, true, true, false] rfl rfl (by kernel_rfl) (by decide) (fun K hK => ?_)
        refine Kd.R_append_rows_step (Kd.int .u8) (w0 := w) w.heap.size (by rfl) (.tmp 54) (.tmp 58) 22 5 (.int .u8 0) 1 rfl Try.underlying22 info5 rfl (by decide) (by omega) (.slice Ao10 y8.length co10) y8 c _ _ _ (fun _ => True) (fun _ => False) rfl rfl ?bO ?bR (fun _ _ h => h) (fun _ h => h.elim) ?bF ?bB ?bS ?bL ?_
        (case bR => exact (Kd.R_reads' HOc.out).2.2)
        (case bB => exact HB11.out)
        (case bF => exact (fun _ _ => trivial))
        (case bO => exact HO11.out)
        (case bS => exact below_size HB11.out)
        (case bL => have := LM.out; have := L8.out; omega)
        intro v12 w12 ho hb hg12 hat
        rw [← Ny9.out] at ho
        obtain ⟨Ao12, co12, eo12⟩ := Kd.R_slice ho
        subst eo12
        have BK12 := Aside0.mk (blk_grown (g := gb) BK11.out hg12 (Kd.R_ne HO11.out BK11.out (by decide)))
        have BA12 := Aside0.mk (blk_grown (g := ga) BA11.out hg12 (Kd.R_ne HO11.out BA11.out (by decide)))
        have HS12 := Aside0.mk (impl_editBytes.St.put BK12.out ho hb GB.out)
        have hc12 : w12.cell? ⟨gb, 0, none⟩ = some v7 := (blk_cell BK12.out 0).trans rfl
        have hf12 : w12.frozen? ⟨gb, 0, none⟩ = false := blk_frozen BK12.out 0
        clear ho hb hg12 hat BK11 BA11 HO11 HB11 HOc
        refine hK.out _ _ ⟨hc12, (blk_cell BA12.out 2).trans rfl, (blk_cell BA12.out 3).trans rfl⟩ (fun hHeld => ?_)
        clear hK K
        refine norm_ (a' := ?_) ?_ ?_
        rotate_left
        · show Act.put _ (some 59) _ = _
          simp only [Act.put, List.setIfInBounds_toArray, List.set_cons_zero, List.set_cons_succ, i64_w, i32_w]
          rfl
        refine last_ (i := 11) (N := none) #[true, true, true, true, true, true, true, true, true, true, true, true] rfl rfl (by kernel_rfl) (by decide) (fun K hK => ?_)
        refine skip_ (w1 := ?_) (by rfl) rfl ?_ ?_
        rotate_left
        · go_simp
          rfl
        refine hK.out _ _ ?_
        clear hK K
        refine done_ (by kernel_rfl) ?_
        clear hHeld hc12 hf12
        go_wp2
        go_roundg (l0_4.length - (kk + 1))
        case measure => omega
        case rel => exact ⟨kk + 1, _, y9, by omega, by omega, by go_num, H', ⟨by repeat (first | exact HS12.out | apply impl_editBytes.St.drewN | apply impl_editBytes.St.drew)⟩⟩
      · rw [if_neg hLM] at H
        cases H
    · have hltz : ¬ (kk : Int) < (l0_4.length : Int) := by omega
      have : kk = l0_4.length := by omega
      subst this
      have H := HA.out
      rw [List.drop_length] at H
      have ho : oo = r := by simpa [impl_editBytes.a] using H
      subst ho
      clear H HA
      have hcz : wr.cell? ⟨gb, 0, none⟩ = some vv := (blk_cell HS.out.box 0).trans rfl
      go_wp2
      go_ret
      exact ⟨_, by first | rfl | (simp; done), by (with_reducible repeat (first | apply Kd.R_alloc | apply Kd.R_drewN | apply Kd.R_drew)); exact HS.out.row, by repeat (first | exact HS.out.bel | apply below_alloc | apply pw_below_drewN | apply below_drew1)⟩

end Go.Proofs.Ytadkabbeghpgcaa.PFnExactReadEdit
