/- Words of this session beside the print's: a loop body of a range over a function is walked region by region by the plain words. -/
import Derived.Test.YtllmlnagihlokaaHy
import Derived.RangeFuncBox
import Derived.RangeFuncLeaves
import Derived.RangeFuncCalls
import Derived.OwnWalkIn
import Derived.TacticsIn
import Derived.TacticsInMore
import Derived.LoopNIn
import Derived.LoopIn
import Derived.Shelf.Abstract
set_option linter.unusedVariables false
namespace Go.Proofs.YtllmlnagihlokaaW.PrintWords
open Go.RowKit
def OnlyN (Q : Exit → Act → World → Prop) : Exit → Act → World → Prop
  | .normal, a, w => Q .normal a w
  | _, _, _ => False
theorem OnlyN.normal {Q : Exit → Act → World → Prop} {a : Act} {w : World} (h : Q .normal a w) : OnlyN Q .normal a w := h
theorem OnlyN.imp {Q : Exit → Act → World → Prop} : ∀ (e : Exit) (a : Act) (w : World), OnlyN Q e a w → Q e a w := fun e a w h => by
  cases e <;> first | exact h | exact (h : False).elim
def noDefer (o : Oper) : Bool := match o.op with | .defer _ => false | _ => true
theorem noDefer_spec {o : Oper} (h : noDefer o = true) : ∀ c, o.op ≠ .defer c := by
  intro c e
  unfold noDefer at h
  rw [e] at h
  cases h
section
def wideAt (r : Option Nat) : Fence := { Fence.wide with round := r }
variable {P : Program} {ops : Array Oper} {Q : Exit → Act → World → Prop} {r : Option Nat} {m : Nat}
theorem callsIn_round {f : FuncId} {args : Array Value} {w : World} {R : Ending → World → Prop} (h : Calls P f args w R) : CallsIn (wideAt r) m P f args w R := (callsIn_wide.2 h : CallsIn Fence.wide m P f args w R)
theorem rowsIn_round {row : String} {args : Array Value} {w : World} {R : Value → World → Prop} (h : Rows P row args w R) : RowsIn (wideAt r) m P row args w R :=
  fun c cs _ => let ⟨v, w', r, s⟩ := h c cs; ⟨v, w', r, stepsIn_wide.2 s⟩
theorem wpOps_round (hd : ops.all noDefer = true) : ∀ (L : List Nat) (a : Act) (w : World), wpOps P ops (OnlyN Q) L a w → wpOpsIn (wideAt r) m P ops Q L a w
  | [], a, w, h => h
  | i :: rest, a, w, h => by
    unfold wpOps at h
    unfold wpOpsIn
    cases ho : ops[i]? with
    | none =>
      simp only [ho] at h ⊢
      exact wpOps_round hd rest a w h
    | some o =>
      simp only [ho] at h ⊢
      have hnd : noDefer o = true := by
        obtain ⟨hlt, e⟩ := Array.getElem?_eq_some_iff.1 ho
        exact Array.all_eq_true_iff_forall_mem.1 hd o (e ▸ Array.getElem_mem hlt)
      by_cases hw : Region.wanted o (yielded ops a.tmps) = true
      · rw [if_pos hw] at h ⊢
        rcases h with h | ⟨_, _, _, h⟩
        case inr => exact h.elim
        refine ⟨fun _ _ => trivial, ?_⟩
        rw [Oper.semAt_plain _ _ _ (noDefer_spec hnd)]
        unfold Oper.wp at h
        generalize (execOp a.eval o).run P w = rr at h ⊢
        cases rr with
        | ok x w' =>
          cases x with
          | value v => exact wpOps_round hd rest _ _ h
          | skip => exact wpOps_round hd rest _ _ h
          | defer d => exact wpOps_round hd rest _ _ h
          | enter f args =>
            refine ⟨(fun e => by cases e), ?_⟩
            refine callsIn_round (Calls.mono h fun e w'' he => ?_)
            cases e with
            | returned v => exact wpOps_round hd rest _ _ he
            | panicked c => exact (he : False).elim
            | outgrown => obtain ⟨_, _, h9⟩ := he; exact (h9 : False).elim
          | row row args => exact ⟨(fun e => by cases e), rowsIn_round (Rows.mono h fun v w'' he => wpOps_round hd rest _ _ he)⟩
          | _ => exact (h : False).elim
        | halt x w' =>
          cases x <;> exact (h : False).elim
      · rw [if_neg hw] at h ⊢
        exact ⟨fun _ _ => trivial, wpOps_round hd rest _ _ h⟩
theorem regionIn_ {id : Nat} {a : Act} {w : World} (hd : ops.all noDefer = true) (h : wpList P ops (OnlyN Q) ops.toList a w) : (Code.region id ops false).wpIn (wideAt r) m P Q a w :=
  wpIn_region (wpOps_round hd _ _ _ (by rw [List.range_eq_range', ← Array.length_toList, wpOps_eq_wpList ops.toList 0 (by simp)]; exact h))
theorem regionIn_any {id : Nat} {a : Act} {w : World} (hm : P.follows .mixedOrders = true) (hd : ops.all noDefer = true) (h : wpAny P .any ops (OnlyN Q) ops.size (Array.replicate ops.size false) a { w with drawn := w.drawn + 1 }) : (Code.region id ops true).wpIn (wideAt r) m P Q a w :=
  wpIn_region_draw fun t => by
    simp only [Region.schedule, hm, Bool.true_or, if_true]
    exact wpOps_round hd _ _ _ (wpAny_sound ops.size t _ a _ h)
theorem startIn_ {id n : Nat} {a : Act} {w : World} {S : World → Prop} {ds : List Nat} (l0 : Array Bool) (hm : P.follows .mixedOrders = true) (hd : ops.all noDefer = true) (hn : ops.size = n) (hl : Array.replicate n false = l0) (hS : S w.drew)
    (h : S w.drew → PrintLast.wpAnyLast P .any ops (OnlyN Q) S ds n l0 a w.drew) : (Code.region id ops true).wpIn (wideAt r) m P Q a w := by
  subst hn
  subst hl
  exact regionIn_any hm hd (PrintLast.wpAny_of_last _ _ _ _ (h hS))
theorem startRound_ {id n l : Nat} {a : Act} {w : World} {S : World → Prop} {ds : List Nat} (l0 : Array Bool) (hm : P.follows .mixedOrders = true) (hd : ops.all noDefer = true) (hn : ops.size = n) (hl : Array.replicate n false = l0) (hS : S w.drew)
    (h : S w.drew → PrintLast.wpAnyLast P .any ops (OnlyN Q) S ds n l0 a w.drew) : (Code.region id ops true).wpIn (Fence.wide.inRound l) m P Q a w := startIn_ (r := some l) l0 hm hd hn hl hS h
theorem startWide_ {id n : Nat} {a : Act} {w : World} {S : World → Prop} {ds : List Nat} (l0 : Array Bool) (hm : P.follows .mixedOrders = true) (hd : ops.all noDefer = true) (hn : ops.size = n) (hl : Array.replicate n false = l0) (hS : S w.drew)
    (h : S w.drew → PrintLast.wpAnyLast P .any ops (OnlyN Q) S ds n l0 a w.drew) : (Code.region id ops true).wpIn Fence.wide m P Q a w := startIn_ (r := none) l0 hm hd hn hl hS h
theorem regionRound_ {id l : Nat} {L : List Oper} {a : Act} {w : World} (hd : L.toArray.all noDefer = true) (h : wpList P L.toArray (OnlyN Q) L a w) : (Code.region id L.toArray false).wpIn (Fence.wide.inRound l) m P Q a w := regionIn_ (r := some l) hd (by simpa using h)
theorem regionWide_ {id : Nat} {L : List Oper} {a : Act} {w : World} (hd : L.toArray.all noDefer = true) (h : wpList P L.toArray (OnlyN Q) L a w) : (Code.region id L.toArray false).wpIn Fence.wide m P Q a w := regionIn_ (r := none) hd (by simpa using h)
end
theorem KeepsOthers.of_kept {W V : World} {S : Nat → Prop} (h : Kept W V S) (hc : ∀ k, S k → ∀ o, W.heap[k]? = some o → o.isCells = true) : KeepsOthers W V :=
  ⟨h.1, fun k o hk ho => (h.2 k (Array.getElem?_eq_some_iff.1 hk).1 (fun hs => by rw [hc k hs o hk] at ho; cases ho)).trans hk⟩
theorem KeepsOthers.of_below {W V : World} (h : Below W.heap.size W V) : KeepsOthers W V := KeepsOthers.of_kept (Kept.of_below h (fun _ => False)) (fun _ h => h.elim)
def Apt (v u : Value) : Prop := ∀ k, v.ownBlock = some k → u.ownBlock ≠ some k
theorem Apt.symm {v u : Value} (h : Apt v u) : Apt u v := fun k hk hv => h k hv hk
structure Sn (e : Nat) (w0 V0 W : World) (L : List (Value × List Int)) (K : List (Nat × Obj)) : Prop where
  row : ∀ p ∈ L, Kd.R (Kd.int .u8) e W w0.heap.size (fun _ => True) p.1 p.2
  apt : L.Pairwise (fun p q => Apt p.1 q.1)
  kept : ∀ q ∈ K, W.heap[q.1]? = some q.2 ∧ w0.heap.size ≤ q.1 ∧ ∀ cur z, q.2 ≠ .cells cur e z
  bel : Below w0.heap.size w0 W
  oth : KeepsOthers V0 W
section
variable {e : Nat} {w0 V0 W V : World} {L L' : List (Value × List Int)} {K K' : List (Nat × Obj)}
theorem Kd.R_reokb {base : Nat} {ok ok' : Nat → Prop} {v : Value} {xs : List Int} (h : Kd.R (Kd.int .u8) e W base ok v xs) (h2 : ∀ k, v.ownBlock = some k → ok' k) : Kd.R (Kd.int .u8) e W base ok' v xs := Kd.R_of_own (enc := Value.int .u8) (Kd.own_of_R h) h2
theorem Kd.R_cellsBlock {base k : Nat} {ok : Nat → Prop} {v : Value} {xs : List Int} (h : Kd.R (Kd.int .u8) e W base ok v xs) (hk : v.ownBlock = some k) : ∃ cur z, W.heap[k]? = some (.cells cur e z) := by
  obtain ⟨_, ⟨rfl, h0⟩ | ⟨g, cap, cur, rfl, hbase, hheap, _⟩⟩ := Kd.own_of_R h
  · cases hk
  · cases hk; exact ⟨_, _, hheap⟩
theorem Sn.init (h : Below w0.heap.size w0 W) : Sn e w0 W W [] [] := ⟨fun _ h => (by cases h), List.Pairwise.nil, fun _ h => (by cases h), h, KeepsOthers.refl _⟩
theorem Sn.restart (h : Sn e w0 V0 W L K) : Sn e w0 W W L K := ⟨h.row, h.apt, h.kept, h.bel, KeepsOthers.refl _⟩
theorem Sn.step (h : Sn e w0 V0 W L K) (hb : Below W.heap.size W V) : Sn e w0 V0 V L K :=
  ⟨fun p hp => Kd.R_below (h.row p hp) hb, h.apt, fun q hq => ⟨(hb.block _ (Array.getElem?_eq_some_iff.1 (h.kept q hq).1).1).trans (h.kept q hq).1, (h.kept q hq).2⟩, below_step h.bel hb, h.oth.trans (KeepsOthers.of_below hb)⟩
theorem Sn.drew (h : Sn e w0 V0 W L K) : Sn e w0 V0 W.drew L K := h.step (below_drew1 (Below.refl _ _))
theorem Sn.drewN (h : Sn e w0 V0 W L K) (n : Nat) : Sn e w0 V0 (W.drewN n) L K := h.step (pw_below_drewN (Below.refl _ _) n)
theorem Sn.alloc (h : Sn e w0 V0 W L K) (o : Obj) : Sn e w0 V0 (W.alloc o) L K := h.step (below_alloc (Below.refl _ _) o)
theorem Sn.perm (h : Sn e w0 V0 W L K) (p : L.Perm L') : Sn e w0 V0 W L' K := ⟨fun q hq => h.row q (p.mem_iff.2 hq), (p.pairwise_iff (fun h => Apt.symm h)).1 h.apt, h.kept, h.bel, h.oth⟩
theorem Sn.sub (h : Sn e w0 V0 W L K) (s : L'.Sublist L) : Sn e w0 V0 W L' K := ⟨fun q hq => h.row q (s.subset hq), h.apt.sublist s, h.kept, h.bel, h.oth⟩
theorem Sn.keep (h : Sn e w0 V0 W L K) (s : ∀ q ∈ K', q ∈ K) : Sn e w0 V0 W L K' := ⟨h.row, h.apt, fun q hq => h.kept q (s q hq), h.bel, h.oth⟩
theorem Sn.swap {p q : Value × List Int} (h : Sn e w0 V0 W (p :: q :: L) K) : Sn e w0 V0 W (q :: p :: L) K := h.perm (List.Perm.swap _ _ _)
theorem Sn.drop1 {p : Value × List Int} (h : Sn e w0 V0 W (p :: L) K) : Sn e w0 V0 W L K := h.sub (List.sublist_cons_self _ _)
theorem Sn.add {ok : Nat → Prop} {v : Value} {x : List Int} (h : Sn e w0 V0 W L K) (hn : Kd.R (Kd.int .u8) e V W.heap.size ok v x) (hb : Below W.heap.size W V) : Sn e w0 V0 V ((v, x) :: L) K := by
  have h' := h.step hb
  refine ⟨?_, List.pairwise_cons.2 ⟨?_, h'.apt⟩, h'.kept, h'.bel, h'.oth⟩
  · intro p hp
    rcases List.mem_cons.1 hp with rfl | hp
    · exact Kd.R_lower (Kd.R_reokb hn (fun _ _ => trivial)) h.bel.size
    · exact h'.row p hp
  · intro q hq k hk hq2
    have h1 := Kd.R_base hn k hk
    obtain ⟨cur, z, h2⟩ := Kd.R_cellsBlock (h.row q hq) hq2
    have h3 := (Array.getElem?_eq_some_iff.1 h2).1
    exact absurd h1 (by show ¬ W.heap.size ≤ k; omega)
theorem Sn.nil (h : Sn e w0 V0 W L K) : Sn e w0 V0 W ((.slice none 0 0, []) :: L) K := by
  refine ⟨?_, List.pairwise_cons.2 ⟨fun q hq k hk => (by cases hk), h.apt⟩, h.kept, h.bel, h.oth⟩
  intro p hp
  rcases List.mem_cons.1 hp with rfl | hp
  · exact Kd.R_nil _ _ _ _ _
  · exact h.row p hp
theorem Sn.app {v v1 : Value} {x x1 : List Int} {ok : Nat → Prop} (h : Sn e w0 V0 W ((v, x) :: L) K) (hr : Kd.R (Kd.int .u8) e V w0.heap.size ok v1 x1) (hb : Below w0.heap.size w0 V) (hg : W.grownBy V v.ownBlock) (hat : v1.ownBlock = v.ownBlock ∨ ∃ b, v1.ownBlock = some b ∧ W.heap.size ≤ b) : Sn e w0 V0 V ((v1, x1) :: L) K := by
  have h0 := h.row (v, x) (List.mem_cons_self ..)
  have ha := List.pairwise_cons.1 h.apt
  refine ⟨?_, List.pairwise_cons.2 ⟨?_, ha.2⟩, ?_, hb, ?_⟩
  · intro p hp
    rcases List.mem_cons.1 hp with rfl | hp
    · exact Kd.R_reokb hr (fun _ _ => trivial)
    · exact Kd.R_reokb (Kd.R_grown (Kd.R_reokb (ok' := fun k => some k ≠ v.ownBlock) (h.row p (List.mem_cons_of_mem _ hp)) (fun k hk he => ha.1 p hp k he.symm hk)) hg (fun k hk => hk)) (fun _ _ => trivial)
  · intro q hq k hk hq2
    rcases hat with hat | ⟨b, hb1, hle⟩
    · exact ha.1 q hq k (hat ▸ hk) hq2
    · obtain ⟨cur, z, h2⟩ := Kd.R_cellsBlock (h.row q (List.mem_cons_of_mem _ hq)) hq2
      have h3 := (Array.getElem?_eq_some_iff.1 h2).1
      rw [hb1] at hk
      injection hk with hk
      omega
  · intro q hq
    obtain ⟨h1, h2, h3⟩ := h.kept q hq
    refine ⟨(hg.block _ (Array.getElem?_eq_some_iff.1 h1).1 ?_).trans h1, h2, h3⟩
    intro he
    obtain ⟨cur, z, h4⟩ := Kd.R_cellsBlock h0 he.symm
    rw [h1] at h4
    exact h3 _ _ (Option.some.inj h4)
  · refine h.oth.trans (KeepsOthers.of_grownBy hg ?_)
    intro j o hj ho
    obtain ⟨cur, z, h4⟩ := Kd.R_cellsBlock h0 hj
    rw [ho] at h4
    cases h4
    rfl
theorem Sn.box {g t : Nat} {cs : Array Value} (h : Sn e w0 V0 W L K) (hb : Below W.heap.size W V) (hx : V.heap[g]? = some (.cells cs t (0, 0))) (hg : w0.heap.size ≤ g) (ht : t ≠ e) : Sn e w0 V0 V L ((g, .cells cs t (0, 0)) :: K) := by
  have h' := h.step hb
  refine ⟨h'.row, h'.apt, ?_, h'.bel, h'.oth⟩
  intro q hq
  rcases List.mem_cons.1 hq with rfl | hq
  · exact ⟨hx, hg, fun cur z he => ht (by injection he)⟩
  · exact h'.kept q hq
theorem Sn.set {g t : Nat} {cs ds : Array Value} (h : Sn e w0 V0 W L ((g, .cells cs t (0, 0)) :: K)) (hne : ∀ q ∈ K, q.1 ≠ g) (ho : On g W V) (hx : V.heap[g]? = some (.cells ds t (0, 0))) : Sn e w0 V0 V L ((g, .cells ds t (0, 0)) :: K) := by
  obtain ⟨h1, h2, h3⟩ := h.kept _ (List.mem_cons_self ..)
  have ht : t ≠ e := fun he => h3 cs (0, 0) (by rw [he])
  refine ⟨fun p hp => ho.Rt (h.row p hp) h1 (fun q hq => (by
    rcases List.mem_cons.1 hq with rfl | hq
    · exact fun he => ht he.symm
    · cases (show q ∈ ([] : List Nat) from hq))), h.apt, ?_, ho.below h.bel h2, h.oth.trans ⟨by rw [ho.size]; exact Nat.le_refl _, fun k o hk hc => ?_⟩⟩
  · intro q hq
    rcases List.mem_cons.1 hq with rfl | hq
    · exact ⟨hx, h2, fun cur z he => ht (by injection he)⟩
    · obtain ⟨k1, k2, k3⟩ := h.kept q (List.mem_cons_of_mem _ hq)
      exact ⟨(ho.far _ (hne q hq)).trans k1, k2, k3⟩
  · refine (ho.far k ?_).trans hk
    rintro rfl
    rw [h1] at hk
    cases hk
    cases hc
theorem Sn.set9 {g t : Nat} {a0 a1 a2 a3 a4 a5 a6 a7 a8 x0 x1 x2 x3 x4 x5 x6 x7 x8 : Value} (h : Sn e w0 V0 W L ((g, .cells #[a0, a1, a2, a3, a4, a5, a6, a7, a8] t (0, 0)) :: K)) (hne : ∀ q ∈ K, q.1 ≠ g) : Sn e w0 V0 (((((((((W.setCell ⟨g, 0, none⟩ x0).setCell ⟨g, 1, none⟩ x1).setCell ⟨g, 2, none⟩ x2).setCell ⟨g, 3, none⟩ x3).setCell ⟨g, 4, none⟩ x4).setCell ⟨g, 5, none⟩ x5).setCell ⟨g, 6, none⟩ x6).setCell ⟨g, 7, none⟩ x7).setCell ⟨g, 8, none⟩ x8) L ((g, .cells #[x0, x1, x2, x3, x4, x5, x6, x7, x8] t (0, 0)) :: K) :=
  h.set hne ((((((((((On.refl _ _).set 0 _).set 1 _).set 2 _).set 3 _).set 4 _).set 5 _).set 6 _).set 7 _).set 8 _) (p9 (h.kept _ (List.mem_cons_self ..)).1)
theorem Sn.turned {row : Option Nat} (h : Sn e w0 V0 W L K) (hc : ∀ q ∈ K, q.2.isCells = true) (hg : W.grownBy V row) (hrow : ∀ r, row = some r → w0.heap.size ≤ r ∧ ∃ o : Obj, W.heap[r]? = some o ∧ o.isCells = false) : Sn e w0 V V L K := by
  have hk : ∀ (k : Nat) (o : Obj), W.heap[k]? = some o → o.isCells = true → V.heap[k]? = W.heap[k]? := fun k o ho hc' => by
    refine hg.block k (Array.getElem?_eq_some_iff.1 ho).1 ?_
    intro he
    obtain ⟨_, o', ho', hc''⟩ := hrow k he.symm
    rw [ho] at ho'
    cases ho'
    rw [hc'] at hc''
    cases hc''
  refine ⟨?_, h.apt, ?_, h.bel.grown hg h.bel.size (fun k e => (hrow k e).1), KeepsOthers.refl _⟩
  · intro p hp
    refine Kd.R_reokb (Kd.R_grown (Kd.R_reokb (ok' := fun k => some k ≠ row) (h.row p hp) ?_) hg (fun k hk => hk)) (fun _ _ => trivial)
    intro k hk0 he
    obtain ⟨cur, z, h4⟩ := Kd.R_cellsBlock (h.row p hp) hk0
    obtain ⟨_, o', ho', hc''⟩ := hrow k he.symm
    rw [h4] at ho'
    cases ho'
    cases hc''
  · intro q hq
    obtain ⟨h1, h2, h3⟩ := h.kept q hq
    exact ⟨(hk _ _ h1 (hc q hq)).trans h1, h2, h3⟩
end
section
variable {P : Program} {ops : Array Oper} {rest : List Oper} {o : Oper} {a : Act} {Q : Exit → Act → World → Prop} {e : Nat} {w0 V0 W : World} {L : List (Value × List Int)} {K : List (Nat × Obj)} {v : Value} {x y : List Int}
theorem Sn.wapp (S : Sn e w0 V0 W ((v, x) :: L) K) (hgd : o.guard = none) (s q : Operand) (t : TypeId) (ho : o.op = .call { callee := .builtin .append, args := #[s, q], argTypes := #[t, t] })
    (ht : P.underlying t = some (.slice e)) (hinfo : (P.info? e).map (fun i => (i.zero, i.size, i.bytes)) = some (some (.int .u8 0), 1, 1)) {A : Option Addr} {m c : Nat} (hs : a.eval s = v) (hx : a.eval q = .slice A m c)
    (HR : Kd.C (Kd.int .u8) W A m y) (hl : x.length + m ≤ 140737488355328)
    (h : ∀ z, z = x ++ y → ∀ A1 c1 w1, Sn e w0 V0 w1 ((.slice A1 z.length c1, z) :: L) K → wpList P ops Q rest (a.put o.dst (.slice A1 z.length c1)) w1) : wpList P ops Q (o :: rest) a W := by
  refine Kd.R_append_rows (Kd.int .u8) (w0 := w0) w0.heap.size hgd s q t e (.int .u8 0) 1 ho ht hinfo rfl (by decide) (by omega) v x y A m c (fun _ => True) (fun _ => False) hs hx (S.row (v, x) (List.mem_cons_self ..)) HR (fun _ _ h => h) (fun _ h => h.elim) (fun _ _ => trivial) S.bel S.bel.size (by omega) ?_
  intro v1 w1 ho1 hb hg hat
  obtain ⟨A1, c1, rfl⟩ := Kd.R_slice ho1
  exact h _ rfl A1 c1 w1 (S.app ho1 hb hg hat)
theorem Sn.wstr (S : Sn e w0 V0 W ((v, x) :: L) K) (hgd : o.guard = none) (s q : Operand) (t u : TypeId) (ho : o.op = .call { callee := .builtin .append, args := #[s, q], argTypes := #[t, u] })
    (ht : P.underlying t = some (.slice e)) (hu : P.underlying u = some .string) (hinfo : (P.info? e).map (fun i => (i.zero, i.size, i.bytes)) = some (some (.int .u8 0), 1, 1)) (y : ByteArray) (hs : a.eval s = v) (hx : a.eval q = .string y)
    (hl : x.length + y.size ≤ 140737488355327)
    (h : ∀ z, z = x ++ bytesOf y → ∀ A1 c1 w1, Sn e w0 V0 w1 ((.slice A1 z.length c1, z) :: L) K → wpList P ops Q rest (a.put o.dst (.slice A1 z.length c1)) w1) : wpList P ops Q (o :: rest) a W := by
  refine Kd.R_append_str (w0 := w0) w0.heap.size hgd s q t u e ho ht hu hinfo v x y (fun _ => True) hs hx (fun _ _ => trivial) (S.row (v, x) (List.mem_cons_self ..)) S.bel S.bel.size (by omega) ?_
  intro v1 w1 ho1 hb hg hat
  obtain ⟨A1, c1, rfl⟩ := Kd.R_slice ho1
  exact h _ rfl A1 c1 w1 (S.app ho1 hb hg hat)
theorem Sn.call {f : FuncId} {args : Array Value} {r : List Int} {ok : Nat → Prop} {R : Ending → World → Prop} (S : Sn e w0 V0 W L K) (hc : Calls P f args W fun e1 w' => ∃ v, e1 = .returned v ∧ Kd.R (Kd.int .u8) e w' W.heap.size ok v r ∧ Below W.heap.size W w')
    (h : ∀ A c w', Sn e w0 V0 w' ((.slice A r.length c, r) :: L) K → R (.returned (.slice A r.length c)) w') : Calls P f args W R := by
  refine hc.mono ?_
  rintro e1 w' ⟨v, rfl, ho, hb⟩
  obtain ⟨A, c, rfl⟩ := Kd.R_slice ho
  exact h A c w' (S.add ho hb)
theorem Sn.reads {A : Option Addr} {c : Nat} (S : Sn e w0 V0 W L K) (hm : (.slice A x.length c, x) ∈ L) : Kd.C (Kd.int .u8) W A x.length x := (Kd.R_reads' (S.row _ hm)).2.2
theorem Sn.rot3 {p q r : Value × List Int} (S : Sn e w0 V0 W (p :: q :: r :: L) K) : Sn e w0 V0 W (r :: p :: q :: L) K := S.perm (List.Perm.trans (List.Perm.cons p (List.Perm.swap r q L)) (List.Perm.swap r p (q :: L)))
theorem Sn.wlit (S : Sn e w0 V0 W L K) (hgd : o.guard = none) {N : Tmp} (hd : o.dst = some N) (hrun : (execOp a.eval o).run P W = .ok (.value (.slice (some ⟨W.heap.size, 0, none⟩) y.length y.length)) (W.alloc (.cells (y.map (Value.int .u8)).toArray e))) (hm : y.length ≤ 9223372036854775807)
    (h : ∀ A c w', Sn e w0 V0 w' ((.slice A y.length c, y) :: L) K → wpList P ops Q rest (a.put o.dst (.slice A y.length c)) w') : wpList P ops Q (o :: rest) a W := by
  refine Kd.R_lit (Kd.int .u8) (w0 := W) W.heap.size e hgd hd (xs := y) (inner := y.map (Value.int .u8)) (ok := fun _ => True) (okp := fun _ => False) hrun (Kd.reps_scalar y) (fun _ h => h.elim) trivial (Below.refl _ _) (Nat.le_refl _) hm ?_
  intro v1 w1 ho hb _ _
  obtain ⟨A1, c1, rfl⟩ := Kd.R_slice ho
  exact h A1 c1 w1 (S.add ho hb)
end
theorem On.nine {g : Nat} {W : World} {x0 x1 x2 x3 x4 x5 x6 x7 x8 : Value} : On g W (((((((((W.setCell ⟨g, 0, none⟩ x0).setCell ⟨g, 1, none⟩ x1).setCell ⟨g, 2, none⟩ x2).setCell ⟨g, 3, none⟩ x3).setCell ⟨g, 4, none⟩ x4).setCell ⟨g, 5, none⟩ x5).setCell ⟨g, 6, none⟩ x6).setCell ⟨g, 7, none⟩ x7).setCell ⟨g, 8, none⟩ x8) := (((((((((On.refl _ _).set 0 _).set 1 _).set 2 _).set 3 _).set 4 _).set 5 _).set 6 _).set 7 _).set 8 _
structure Later (W : World) where
  out : World
  bel : Below W.heap.size W out
instance {W : World} : Nonempty (Later W) := ⟨⟨W, Below.refl _ _⟩⟩
theorem Later.cell {w W : World} (hB : Below w.heap.size w W) {p : Addr} {v : Value} (h : w.cell? p = some v) (n : Later W) : n.out.cell? p = some v := ((below_step hB n.bel).cell (World.block_lt_of_cell? w _ h)).trans h
theorem Later.own {W : World} {p : Addr} {v : Value} (h : W.cell? p = some v) (n : Later W) : n.out.cell? p = some v := (n.bel.cell (World.block_lt_of_cell? W _ h)).trans h
theorem Later.nine {W : World} {g t : Nat} {a0 a1 a2 a3 a4 a5 a6 a7 a8 : Value} (h : W.heap[g]? = some (.cells #[a0, a1, a2, a3, a4, a5, a6, a7, a8] t (0, 0))) : (∀ n : Later W, n.out.cell? ⟨g, 0, none⟩ = some a0) ∧ (∀ n : Later W, n.out.cell? ⟨g, 1, none⟩ = some a1) ∧ (∀ n : Later W, n.out.cell? ⟨g, 2, none⟩ = some a2) ∧ (∀ n : Later W, n.out.cell? ⟨g, 3, none⟩ = some a3) ∧ (∀ n : Later W, n.out.cell? ⟨g, 4, none⟩ = some a4) ∧ (∀ n : Later W, n.out.cell? ⟨g, 5, none⟩ = some a5) ∧ (∀ n : Later W, n.out.cell? ⟨g, 6, none⟩ = some a6) ∧ (∀ n : Later W, n.out.cell? ⟨g, 7, none⟩ = some a7) ∧ (∀ n : Later W, n.out.cell? ⟨g, 8, none⟩ = some a8) := ⟨Later.own ((blk_cell h 0).trans rfl), Later.own ((blk_cell h 1).trans rfl), Later.own ((blk_cell h 2).trans rfl), Later.own ((blk_cell h 3).trans rfl), Later.own ((blk_cell h 4).trans rfl), Later.own ((blk_cell h 5).trans rfl), Later.own ((blk_cell h 6).trans rfl), Later.own ((blk_cell h 7).trans rfl), Later.own ((blk_cell h 8).trans rfl)⟩
theorem Later.call {P : Program} {f : FuncId} {args : Array Value} {W : World} {n : Later W} {v : Value} (h : Calls P f args n.out fun e w' => e = .returned v ∧ Below n.out.heap.size n.out w') : Calls P f args n.out fun e w' => e = .returned v ∧ ∃ m : Later W, w' = m.out :=
  h.mono fun _ _ ⟨he, hb⟩ => ⟨he, ⟨_, below_step n.bel hb⟩, rfl⟩
theorem quietLater {P : Program} {id : Nat} {Q : Exit → Act → World → Prop} {a : Act} {W : World} {l : List Oper} (hm : P.follows .mixedOrders = true) (hB : Region.lexB .any l.toArray = true)
    (h : wpQuiet P l.toArray (fun w' => ∃ n : Later W, w' = n.out) (fun a' => ∀ w', (∃ n : Later W, w' = n.out) → Q .normal a' w') l a) : (Code.region id l.toArray true).wp P Q a W :=
  wp_region_quiet (C := fun w' => ∃ n : Later W, w' = n.out) hm hB ⟨⟨_, below_drew1 (Below.refl _ _)⟩, rfl⟩ (by simpa using h)
end Go.Proofs.YtllmlnagihlokaaW.PrintWords

