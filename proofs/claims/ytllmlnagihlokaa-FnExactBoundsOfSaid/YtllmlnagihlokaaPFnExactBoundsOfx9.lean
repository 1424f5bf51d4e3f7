-- Written by a program of this session.
import Derived.Test.YtllmlnagihlokaaPFnExactBoundsOfx0
import Derived.Test.YtllmlnagihlokaaPFnExactBoundsOfx7
import Derived.Test.YtllmlnagihlokaaPFnExactBoundsOfx8
namespace Go.Proofs.Ytllmlnagihlokaa.PFnExactBoundsOf
open Go.RowKit Go.Proofs.YtllmlnagihlokaaW.PrintWords Go.Proofs.YtllmlnagihlokaaW.PrintLast Go.Proofs.YtllmlnagihlokaaW.PrintMore
attribute [local go_sem] max2_int min2_int max_two min_two max_three min_three max_four min_four hw_string_geq hw_string_gtr hw_string_leq
set_option linter.unusedVariables false
set_option linter.unusedSimpArgs false
abbrev bq9_0 : Array Bool := #[false, false, false, false, false, false, false, false, false, false, false, false, false, false, false, false, false, false, false, false, false, false]
/-! ### spec_l7Entries: function 59, by hand -/
/-! ### a row of entries whose lists begin inside their blocks -/
def spec_l7Entries.cells (x : S51) (A : Option Addr) (c : Nat) : List Value := [.string x.f0, .int .i64 x.f1, .int .i64 x.f2, .int .i64 x.f3.f0, .int .i64 x.f3.f1, .int .i64 x.f3.f2, .int .i64 x.f3.f3, .slice A x.f3.f4.length c, .bool x.f3.f5]
structure spec_l7Entries.Ents (W : World) (b : Nat) (v : Value) (E : List S51) : Prop where
 row : ∃ cs : List (List Value), Kd.R (Kd.raw 9) 51 W b (fun _ => True) v cs ∧ cs.length = E.length ∧ ∀ (j : Nat) (x : S51), E[j]? = some x → ∃ A c, cs[j]? = some (spec_l7Entries.cells x A c) ∧ Kd.Q (Kd.int .i64) 3 W b (fun _ => True) (.slice A x.f3.f4.length c) x.f3.f4
section
variable {W V : World} {b : Nat} {v v1 : Value} {E : List S51}
theorem spec_l7Entries.Ents.nil (W : World) (b : Nat) : spec_l7Entries.Ents W b (.slice none 0 0) [] := ⟨[], Kd.R_nil _ _ _ _ _, rfl, fun j x h => by simp at h⟩
theorem spec_l7Entries.Ents.below (h : spec_l7Entries.Ents W b v E) (hb : Below W.heap.size W V) : spec_l7Entries.Ents V b v E := by
 obtain ⟨cs, h1, h2, h3⟩ := h
 refine ⟨cs, Kd.R_below h1 hb, h2, fun j x hx => ?_⟩
 obtain ⟨A, c, h4, h5⟩ := h3 j x hx
 exact ⟨A, c, h4, Kd.Q_below h5 hb⟩
theorem spec_l7Entries.Ents.drew (h : spec_l7Entries.Ents W b v E) : spec_l7Entries.Ents W.drew b v E := h.below (below_drew1 (Below.refl _ _))
theorem spec_l7Entries.Ents.drewN (h : spec_l7Entries.Ents W b v E) (n : Nat) : spec_l7Entries.Ents (W.drewN n) b v E := h.below (pw_below_drewN (Below.refl _ _) n)
/-- blocks of other types have been written -/
theorem spec_l7Entries.Ents.kept {S : Nat → Prop} (h : spec_l7Entries.Ents W b v E) (hk : Kept W V S) (hS : ∀ k, S k → ∃ cs t, W.heap[k]? = some (.cells cs t (0, 0)) ∧ t ≠ 51 ∧ t ≠ 3) : spec_l7Entries.Ents V b v E := by
 have far : ∀ (q k : Nat) (cs' : Array Value), W.heap[k]? = some (.cells cs' q (0, 0)) → q = 51 ∨ q = 3 → ¬ S k := by
  intro q k cs' hc hq hs; obtain ⟨cs, t, h1, h2, h3⟩ := hS k hs; rw [hc] at h1
  injection h1 with h1
  injection h1 with _ h1
  rcases hq with rfl | rfl
  ·exact h2 h1.symm
  ·exact h3 h1.symm
 obtain ⟨cs, h1, h2, h3⟩ := h
 refine ⟨cs, Kd.R_mono (Kd.R_kept (Kd.R_bound h1) hk (fun k hh => ?_)) (fun _ _ => trivial), h2, fun j x hx => ?_⟩
 ·obtain ⟨_, _, _, q, hq, cs', hc⟩ := hh; exact far q k cs' hc (.inl (by simpa [Kd.raw] using hq))
 ·obtain ⟨A, c, h4, h5⟩ := h3 j x hx; refine ⟨A, c, h4, Kd.Q_mono (Kd.Q_kept (Kd.Q_bound h5) hk (fun k hh => ?_)) (fun _ _ => trivial)⟩; obtain ⟨_, _, _, q, hq, cs', hc⟩ := hh; exact far q k cs' hc (.inr (by simpa [Kd.int, Kd.scalar] using hq))
theorem spec_l7Entries.Ents.gr {g : Nat} {cs : Array Value} {t : Nat} (h : spec_l7Entries.Ents W b v E) (hg : Gr g W V) (hb : W.heap[g]? = some (.cells cs t (0, 0))) (h1 : t ≠ 51) (h2 : t ≠ 3) : spec_l7Entries.Ents V b v E :=
 h.kept (S := fun k => k = g) ⟨hg.size, fun i hi hn => hg.far i hi hn⟩ (fun k hk => ⟨cs, t, hk ▸ hb, h1, h2⟩)
theorem spec_l7Entries.Ents.lt (h : spec_l7Entries.Ents W b v E) : ∀ k, v.ownBlock = some k → k < W.heap.size := by
 obtain ⟨cs, ⟨_, inner, ho, _⟩, _⟩ := h
 exact fun k hk => own_lt ho k hk
theorem spec_l7Entries.Ents.far {g : Nat} {cs : Array Value} {t : Nat} (h : spec_l7Entries.Ents W b v E) (hb : W.heap[g]? = some (.cells cs t (0, 0))) (h2 : some g ≠ v.ownBlock) (h3 : t ≠ 3) (on : On g W V) : spec_l7Entries.Ents V b v E := by
 obtain ⟨cs', h4, h5, h6⟩ := h
 have h7 : Kd.R (Kd.raw 9) 51 W b (fun k => k ≠ g) v cs' := ⟨fun k hk e => h2 (e ▸ hk.symm), h4.2⟩
 refine ⟨cs', Kd.R_mono (Kd.R_step h7 (fun k hk _ => on.far k hk)) (fun _ _ => trivial), h5, fun j x hx => ?_⟩
 obtain ⟨A, c, h8, h9⟩ := h6 j x hx
 exact ⟨A, c, h8, Kd.Q_mono (Kd.Q_step (Kd.Q_types h9 hb (fun q hq => by have h0 : q = 3 := (by simpa [Kd.int, Kd.scalar] using hq); rw [h0]; exact h3.symm)) (fun k hk _ => on.far k hk.2)) (fun _ _ => trivial)⟩
theorem spec_l7Entries.Ents.slice (h : spec_l7Entries.Ents W b v E) : ∃ A c, v = .slice A E.length c ∧ E.length ≤ c := by
 obtain ⟨cs, h1, h2, h3⟩ := h
 obtain ⟨A, c, rfl, hl, _⟩ := Kd.R_reads h1
 exact ⟨A, c, by rw [h2], by omega⟩
theorem spec_l7Entries.cells_K (x : S51) {A : Option Addr} {c : Nat} (hl : x.f3.f4.length ≤ c) (hC : Kd.C (Kd.int .i64) W A x.f3.f4.length x.f3.f4) : k51.K W x (spec_l7Entries.cells x A c) := ⟨[.string x.f0], [.int .i64 x.f1, .int .i64 x.f2, .int .i64 x.f3.f0, .int .i64 x.f3.f1, .int .i64 x.f3.f2, .int .i64 x.f3.f3, .slice A x.f3.f4.length c, .bool x.f3.f5], rfl, rfl, ⟨[.int .i64 x.f1], [.int .i64 x.f2, .int .i64 x.f3.f0, .int .i64 x.f3.f1, .int .i64 x.f3.f2, .int .i64 x.f3.f3, .slice A x.f3.f4.length c, .bool x.f3.f5], rfl, rfl, ⟨[.int .i64 x.f2], [.int .i64 x.f3.f0, .int .i64 x.f3.f1, .int .i64 x.f3.f2, .int .i64 x.f3.f3, .slice A x.f3.f4.length c, .bool x.f3.f5], rfl, rfl, ⟨[.int .i64 x.f3.f0], [.int .i64 x.f3.f1, .int .i64 x.f3.f2, .int .i64 x.f3.f3, .slice A x.f3.f4.length c, .bool x.f3.f5], rfl, rfl, ⟨[.int .i64 x.f3.f1], [.int .i64 x.f3.f2, .int .i64 x.f3.f3, .slice A x.f3.f4.length c, .bool x.f3.f5], rfl, rfl, ⟨[.int .i64 x.f3.f2], [.int .i64 x.f3.f3, .slice A x.f3.f4.length c, .bool x.f3.f5], rfl, rfl, ⟨[.int .i64 x.f3.f3], [.slice A x.f3.f4.length c, .bool x.f3.f5], rfl, rfl, ⟨[.slice A x.f3.f4.length c], [.bool x.f3.f5], rfl, ⟨A, c, rfl, hl, hC⟩, rfl⟩⟩⟩⟩⟩⟩⟩⟩
theorem spec_l7Entries.Ents.reads {A : Option Addr} {n c : Nat} (h : spec_l7Entries.Ents W b (.slice A n c) E) : E.length ≤ c ∧ Kd.C k51 W A E.length E := by
 obtain ⟨cs, h1, h2, h3⟩ := h
 obtain ⟨hn, hl, hC⟩ := Kd.R_reads' h1
 subst hn
 refine ⟨by omega, rfl, by have := hC.2.1; omega, fun hp => ?_⟩
 obtain ⟨ad, hA, hc⟩ := hC.2.2 (by omega)
 refine ⟨ad, hA, fun j x hx => ?_⟩
 obtain ⟨A7, c7, h4, h5⟩ := h3 j x hx
 obtain ⟨cs', hlen, ⟨rfl, _, _⟩, hcell⟩ := hc j _ h4
 obtain ⟨e1, e2, hr⟩ := Kd.Q_reads' h5
 exact ⟨_, hlen, spec_l7Entries.cells_K x e2 hr, hcell⟩
/-- behind an append -/
theorem spec_l7Entries.Ents.grown (h : spec_l7Entries.Ents W b v E) {x : S51} {A : Option Addr} {c : Nat} {cs : List (List Value)} (h1 : Kd.R (Kd.raw 9) 51 W b (fun _ => True) v cs) (h2 : cs.length = E.length) (h3 : ∀ (j : Nat) (x : S51), E[j]? = some x → ∃ A c, cs[j]? = some (spec_l7Entries.cells x A c) ∧ Kd.Q (Kd.int .i64) 3 W b (fun _ => True) (.slice A x.f3.f4.length c) x.f3.f4) (hq : Kd.Q (Kd.int .i64) 3 W b (fun _ => True) (.slice A x.f3.f4.length c) x.f3.f4) (hr : Kd.R (Kd.raw 9) 51 V b (fun _ => True) v1 (cs ++ [spec_l7Entries.cells x A c])) (hg : W.grownBy V v.ownBlock) : spec_l7Entries.Ents V b v1 (E ++ [x]) := by
 have mv : ∀ {A c} {z : List Int}, Kd.Q (Kd.int .i64) 3 W b (fun _ => True) (.slice A z.length c) z → Kd.Q (Kd.int .i64) 3 V b (fun _ => True) (.slice A z.length c) z := by
  intro A c z hz; refine Kd.Q_mono (Kd.Q_grown (Kd.Q_bound hz) hg (fun k hk e => ?_)) (fun _ _ => trivial); obtain ⟨_, _, _, q, hq', cs', hc⟩ := hk; obtain ⟨_, inner, ho, _⟩ := h1; obtain ⟨cs2, hc2⟩ := own_typed ho k e.symm; rw [hc] at hc2
  injection hc2 with hc2
  injection hc2 with _ hc2
  have hq3 : q = 3 := by simpa [Kd.int, Kd.scalar] using hq'
  exact absurd (hq3.symm.trans hc2) (by decide)
 refine ⟨_, hr, by simp [h2], fun j y hy => ?_⟩
 rcases Nat.lt_or_ge j E.length with hj | hj
 ·rw [List.getElem?_append_left hj] at hy; obtain ⟨A', c', h4, h5⟩ := h3 j y hy; exact ⟨A', c', by rw [List.getElem?_append_left (by omega)]; exact h4, mv h5⟩
 ·rw [List.getElem?_append_right hj] at hy
  have hj0 : j - E.length = 0 := by
   rcases Nat.eq_zero_or_pos (j - E.length) with h0 | h0
   ·exact h0
   ·rw [List.getElem?_eq_none (by simp; omega)] at hy; cases hy
  rw [hj0] at hy
  obtain rfl : x = y := by simpa using hy
  exact ⟨A, c, by rw [List.getElem?_append_right (by omega), h2, hj0]; rfl, mv hq⟩
end
structure spec_l7Entries.Se (w W : World) (v : Value) (E : List S51) : Prop where
 bel : Below w.heap.size w W
 ents : spec_l7Entries.Ents W w.heap.size v E
section
variable {w W V : World} {v : Value} {E : List S51}
theorem spec_l7Entries.Se.drew (h : spec_l7Entries.Se w W v E) : spec_l7Entries.Se w W.drew v E := ⟨below_drew1 h.bel, h.ents.drew⟩
theorem spec_l7Entries.Se.drewN (h : spec_l7Entries.Se w W v E) (m : Nat) : spec_l7Entries.Se w (W.drewN m) v E := ⟨pw_below_drewN h.bel m, h.ents.drewN m⟩
theorem spec_l7Entries.Se.far {g : Nat} {cs : Array Value} {t : Nat} (h : spec_l7Entries.Se w W v E) (hb : W.heap[g]? = some (.cells cs t (0, 0))) (h2 : some g ≠ v.ownBlock) (h3 : t ≠ 3) (on : On g W V) (hg : w.heap.size ≤ g) : spec_l7Entries.Se w V v E := ⟨on.below h.bel hg, h.ents.far hb h2 h3 on⟩
theorem spec_l7Entries.Se.below (h : spec_l7Entries.Se w W v E) (hb : Below W.heap.size W V) : spec_l7Entries.Se w V v E := ⟨below_step h.bel hb, h.ents.below hb⟩
end
theorem seK {w W V : World} {v : Value} {E : List S51} (h : spec_l7Entries.Se w W v E) (hm : MvA W V := by (with_reducible repeat (first | exact MvA.refl _ | apply MvA.drewN | apply MvA.drew | apply MvA.alloc))) : spec_l7Entries.Se w V v E := h.below hm.below
/-- one entry: whether it is one, the entry, the place behind it -/
def spec_l7Entries.tail (k : Nat) (l : List Int) (key : ByteArray) (n3 kd n4 e q : Int) : Option (Bool × S51 × Int) :=
 if 0 < n4 then (spec_ReadAgg.f k ((l.take q.toNat).drop e.toNat)).bind fun r => some (r.2.2.2.2.2.2, ⟨key, n3, kd, ⟨r.1, r.2.1, r.2.2.1, r.2.2.2.1, r.2.2.2.2.1, r.2.2.2.2.2.1⟩⟩, q)
 else some (true, ⟨key, n3, kd, z49⟩, q)
def spec_l7Entries.ent (k : Nat) (l : List Int) (at_ : Int) (ah : ByteArray) : Option (Bool × S51 × Int) :=
 (spec_l1Var.f k l at_).bind fun p1 => if p1.2 = 0 then some (false, z51, 0) else
 (spec_l1Var.f k l p1.2).bind fun p2 => if p2.2 = 0 then some (false, z51, 0) else
 (spec_l1Var.f k l p2.2).bind fun p3 => if p3.2 = 0 then some (false, z51, 0) else if (l.length : Int) ≤ p3.2 then some (false, z51, 0) else
 (spec_l1Var.f k l (wrap64 (p3.2 + 1))).bind fun p4 => if p4.2 = 0 then some (false, z51, 0) else
  if 0 ≤ p1.1 ∧ 0 ≤ p2.1 ∧ 0 ≤ p3.1 ∧ 0 ≤ p4.1 ∧ 0 ≤ p3.2 ∧ 0 ≤ p4.2 ∧ p4.2 ≤ 1000000 ∧ ah.size ≤ 1000000 ∧ l.length ≤ 1000000 then
   if (ah.size : Int) < p1.1 then some (false, z51, 0) else if 8000 < p2.1 then some (false, z51, 0) else if 8000 < p4.1 then some (false, z51, 0) else if 1099511627776 < p3.1 then some (false, z51, 0) else if (l.length : Int) < p4.2 + p2.1 + p4.1 then some (false, z51, 0) else
    spec_l7Entries.tail k l (ah.extract 0 p1.1.toNat ++ strOfNums ((l.take (p4.2 + p2.1).toNat).drop p4.2.toNat)) p3.1 (wrap64 (rd l p3.2)) p4.1 (p4.2 + p2.1) (p4.2 + p2.1 + p4.1)
  else none
def spec_l7Entries.scan (k : Nat) (l : List Int) : Nat → List S51 → Int → ByteArray → Option (List S51 × Bool)
 | 0, E, _, _ => some (E, true)
 | d + 1, E, a, ah => (spec_l7Entries.ent k l a (if E.length % 4 = 0 then ⟨#[]⟩ else ah)).bind fun o => if o.1 = true then spec_l7Entries.scan k l d (E ++ [o.2.1]) o.2.2 o.2.1.f0 else some ([], false)
def spec_l7Entries.f (k : Nat) (l : List Int) (many : Int) : Option (List S51 × Bool) := if 0 ≤ many ∧ many ≤ 1000000 then spec_l7Entries.scan k l many.toNat [] 0 ⟨#[]⟩ else none
set_option maxHeartbeats 8000000 in
set_option maxRecDepth 100000 in
theorem spec_l7Entries.calls (k : Nat) (A0_ : Option Addr) (c0 : Nat) (l0 : List Int) (a1 : Int) (r1 : List S51) (r2 : Bool) (w : World) (hr0 : Kd.C (Kd.int .u8) w A0_ l0.length l0) (hc0 : l0.length ≤ c0) (h : spec_l7Entries.f k l0 a1 = some (r1, r2)) :
  Calls Try.prog 59 #[.slice A0_ l0.length c0, .int .i64 a1] w fun e w' => ∃ v, e = .returned (.tuple #[v, .bool r2]) ∧ spec_l7Entries.Ents w' w.heap.size v r1 ∧ Below w.heap.size w w' := by
 have hu2 := Try.underlying49
 have hu3 := Try.underlying51
 unfold spec_l7Entries.f at h
 by_cases hm : 0 ≤ a1 ∧ a1 ≤ 1000000
 case neg => rw [if_neg hm] at h; cases h
 rw [if_pos hm] at h
 obtain ⟨m, rfl⟩ : ∃ m : Nat, a1 = (m : Int) := ⟨a1.toNat, by omega⟩
 rw [Int.toNat_natCast] at h
 have hmm : m ≤ 1000000 := by omega
 have HR0 := A0 hr0
 have HC0 := A0 hc0
 have H := A0 h
 have S := A0 (⟨Below.refl w.heap.size w, spec_l7Entries.Ents.nil w w.heap.size⟩ : spec_l7Entries.Se w w (.slice none 0 0) [])
 clear hr0 hc0 h hm
 go_enter Try.func59, Try.ntmps59
 go_wp2
 go_loopg [6, 7, 8] m (fun gg v6 v7 v8 w' => ∃ (d : Nat) (E : List S51) (a : Int) (ah : ByteArray), d ≤ gg ∧ E.length + d = m ∧ v7 = .int .i64 a ∧ v8 = .string ah ∧ Aside0 (spec_l7Entries.scan k l0 d E a ah = some (r1, r2)) ∧ Aside0 (spec_l7Entries.Se w w' v6 E))
 case atStart => exact ⟨m, [], 0, ⟨#[]⟩, Nat.le_refl _, by simp, rfl, rfl, H, ⟨(seK S.out)⟩⟩
 case round =>
  clear S H; obtain ⟨d, E, a, ah, hd, hE, rfl, rfl, HJ, S⟩ := hrel; obtain ⟨Ao, co, eo, hco⟩ := S.out.ents.slice; subst eo
  cases d with
  | zero =>
   have h := HJ.out; simp only [spec_l7Entries.scan, Option.some.injEq, Prod.mk.injEq] at h; obtain ⟨rfl, rfl⟩ := h; have hd1 : decide ((E.length : Int) < (m : Int)) = false := decide_eq_false (by omega); have hd2 : decide (E.length < m) = false := decide_eq_false (by omega)
   go_wp2
   go_ret2
   exact ⟨.slice Ao E.length co, rfl, spec_l7Entries.Se.ents (seK S.out), spec_l7Entries.Se.bel (seK S.out)⟩
  | succ d =>
   have h := HJ.out
   unfold spec_l7Entries.scan at h
   have hd1 : decide ((E.length : Int) < (m : Int)) = true := decide_eq_true (by omega); have hd2 : decide (E.length < m) = true := decide_eq_true (by omega); obtain ⟨bf, hbf⟩ : ∃ bf : ByteArray, bf = (if E.length % 4 = 0 then ⟨#[]⟩ else ah) := ⟨_, rfl⟩; rw [← hbf] at h; have HBF := A0 hbf; have H := A0 h; have HE := A0 hE; have HD := A0 hd; clear h hbf HJ hE hd
   go_upto_if 27 with (fail)
   go_cut [8] (fun v8 wc => v8 = .string bf ∧ Aside0 (spec_l7Entries.Se w wc (.slice Ao E.length co) E))
   case first =>
    by_cases h4 : E.length % 4 = 0
    ·rw [show ((E.length : Int) % 4 == 0) = true from beq_iff_eq.mpr (by omega)]
     obtain rfl : bf = ⟨#[]⟩ := by rw [HBF.out, if_pos h4]
     go_wp2
     go_meet
     case rel => exact ⟨rfl, ⟨(seK S.out)⟩⟩
    ·rw [show ((E.length : Int) % 4 == 0) = false from beq_eq_false_iff_ne.mpr (by omega)]
     obtain rfl : bf = ah := by rw [HBF.out, if_neg h4]
     go_wp2
     go_meet
     case rel => exact ⟨rfl, ⟨(seK S.out)⟩⟩
   case rest =>
    clear S HBF; obtain ⟨rfl, S⟩ := hcut; obtain ⟨⟨ok, x, q⟩, hx, h⟩ := Option.bind_eq_some_iff.mp H.out
    dsimp only at h
    have HS := A0 h; clear h H
    unfold spec_l7Entries.ent at hx
    obtain ⟨⟨n1, t1⟩, h1, hx⟩ := Option.bind_eq_some_iff.mp hx; have H1 := A0 h1; clear h1
    dsimp only at hx
    by_cases e1 : t1 = 0
    ·rw [if_pos e1] at hx
     obtain ⟨rfl, rfl, rfl⟩ : false = ok ∧ z51 = x ∧ 0 = q := (by simpa only [Option.some.injEq, Prod.mk.injEq] using hx); obtain ⟨rfl, rfl⟩ : [] = r1 ∧ false = r2 := (by have h := HS.out; simpa only [Bool.false_eq_true, if_false, Option.some.injEq, Prod.mk.injEq] using h); clear hx
     subst e1
     go_wp2_with (first | (go_at_call 86; (with_reducible refine (spec_l1Var.calls k A0_ c0 l0 _ _ _ _ (Kd.C_below HR0.out (spec_l7Entries.Se.bel (seK S.out))) HC0.out H1.out).mono ?_); rintro e w31 ⟨rfl, hd⟩; have S2 := A0 (spec_l7Entries.Se.below (seK S.out) hd.below); clear S hd H1; have S := S2; clear S2))
     go_ret2; exact ⟨.slice none 0 0, rfl, spec_l7Entries.Ents.nil _ _, spec_l7Entries.Se.bel (seK S.out)⟩
    rw [if_neg e1] at hx; have e1b : (t1 == 0) = false := beq_eq_false_iff_ne.mpr e1; obtain ⟨⟨n2, t2⟩, h2, hx⟩ := Option.bind_eq_some_iff.mp hx; have H2 := A0 h2; clear h2
    dsimp only at hx
    by_cases e2 : t2 = 0
    ·rw [if_pos e2] at hx
     obtain ⟨rfl, rfl, rfl⟩ : false = ok ∧ z51 = x ∧ 0 = q := (by simpa only [Option.some.injEq, Prod.mk.injEq] using hx); obtain ⟨rfl, rfl⟩ : [] = r1 ∧ false = r2 := (by have h := HS.out; simpa only [Bool.false_eq_true, if_false, Option.some.injEq, Prod.mk.injEq] using h); clear hx
     subst e2
     go_wp2_with (first | (go_at_call 86; (with_reducible refine (spec_l1Var.calls k A0_ c0 l0 _ _ _ _ (Kd.C_below HR0.out (spec_l7Entries.Se.bel (seK S.out))) HC0.out H1.out).mono ?_); rintro e w31 ⟨rfl, hd⟩; have S2 := A0 (spec_l7Entries.Se.below (seK S.out) hd.below); clear S hd H1; have S := S2; clear S2) | (go_at_call 86; (with_reducible refine (spec_l1Var.calls k A0_ c0 l0 _ _ _ _ (Kd.C_below HR0.out (spec_l7Entries.Se.bel (seK S.out))) HC0.out H2.out).mono ?_); rintro e w32 ⟨rfl, hd⟩; have S2 := A0 (spec_l7Entries.Se.below (seK S.out) hd.below); clear S hd H2; have S := S2; clear S2))
     go_ret2; exact ⟨.slice none 0 0, rfl, spec_l7Entries.Ents.nil _ _, spec_l7Entries.Se.bel (seK S.out)⟩
    rw [if_neg e2] at hx; have e2b : (t2 == 0) = false := beq_eq_false_iff_ne.mpr e2; obtain ⟨⟨n3, t3⟩, h3, hx⟩ := Option.bind_eq_some_iff.mp hx; have H3 := A0 h3; clear h3
    dsimp only at hx
    by_cases e3 : t3 = 0
    ·rw [if_pos e3] at hx
     obtain ⟨rfl, rfl, rfl⟩ : false = ok ∧ z51 = x ∧ 0 = q := (by simpa only [Option.some.injEq, Prod.mk.injEq] using hx); obtain ⟨rfl, rfl⟩ : [] = r1 ∧ false = r2 := (by have h := HS.out; simpa only [Bool.false_eq_true, if_false, Option.some.injEq, Prod.mk.injEq] using h); clear hx
     subst e3
     go_wp2_with (first | (go_at_call 86; (with_reducible refine (spec_l1Var.calls k A0_ c0 l0 _ _ _ _ (Kd.C_below HR0.out (spec_l7Entries.Se.bel (seK S.out))) HC0.out H1.out).mono ?_); rintro e w31 ⟨rfl, hd⟩; have S2 := A0 (spec_l7Entries.Se.below (seK S.out) hd.below); clear S hd H1; have S := S2; clear S2) | (go_at_call 86; (with_reducible refine (spec_l1Var.calls k A0_ c0 l0 _ _ _ _ (Kd.C_below HR0.out (spec_l7Entries.Se.bel (seK S.out))) HC0.out H2.out).mono ?_); rintro e w32 ⟨rfl, hd⟩; have S2 := A0 (spec_l7Entries.Se.below (seK S.out) hd.below); clear S hd H2; have S := S2; clear S2) | (go_at_call 86; (with_reducible refine (spec_l1Var.calls k A0_ c0 l0 _ _ _ _ (Kd.C_below HR0.out (spec_l7Entries.Se.bel (seK S.out))) HC0.out H3.out).mono ?_); rintro e w33 ⟨rfl, hd⟩; have S2 := A0 (spec_l7Entries.Se.below (seK S.out) hd.below); clear S hd H3; have S := S2; clear S2))
     go_ret2; exact ⟨.slice none 0 0, rfl, spec_l7Entries.Ents.nil _ _, spec_l7Entries.Se.bel (seK S.out)⟩
    rw [if_neg e3] at hx; have e3b : (t3 == 0) = false := beq_eq_false_iff_ne.mpr e3
    by_cases e4 : (l0.length : Int) ≤ t3
    ·rw [if_pos e4] at hx
     obtain ⟨rfl, rfl, rfl⟩ : false = ok ∧ z51 = x ∧ 0 = q := (by simpa only [Option.some.injEq, Prod.mk.injEq] using hx); obtain ⟨rfl, rfl⟩ : [] = r1 ∧ false = r2 := (by have h := HS.out; simpa only [Bool.false_eq_true, if_false, Option.some.injEq, Prod.mk.injEq] using h); clear hx
     have e4b : decide ((l0.length : Int) ≤ t3) = true := decide_eq_true e4
     go_wp2_with (first | (go_at_call 86; (with_reducible refine (spec_l1Var.calls k A0_ c0 l0 _ _ _ _ (Kd.C_below HR0.out (spec_l7Entries.Se.bel (seK S.out))) HC0.out H1.out).mono ?_); rintro e w31 ⟨rfl, hd⟩; have S2 := A0 (spec_l7Entries.Se.below (seK S.out) hd.below); clear S hd H1; have S := S2; clear S2) | (go_at_call 86; (with_reducible refine (spec_l1Var.calls k A0_ c0 l0 _ _ _ _ (Kd.C_below HR0.out (spec_l7Entries.Se.bel (seK S.out))) HC0.out H2.out).mono ?_); rintro e w32 ⟨rfl, hd⟩; have S2 := A0 (spec_l7Entries.Se.below (seK S.out) hd.below); clear S hd H2; have S := S2; clear S2) | (go_at_call 86; (with_reducible refine (spec_l1Var.calls k A0_ c0 l0 _ _ _ _ (Kd.C_below HR0.out (spec_l7Entries.Se.bel (seK S.out))) HC0.out H3.out).mono ?_); rintro e w33 ⟨rfl, hd⟩; have S2 := A0 (spec_l7Entries.Se.below (seK S.out) hd.below); clear S hd H3; have S := S2; clear S2))
     go_ret2; exact ⟨.slice none 0 0, rfl, spec_l7Entries.Ents.nil _ _, spec_l7Entries.Se.bel (seK S.out)⟩
    rw [if_neg e4] at hx; have e4b : decide ((l0.length : Int) ≤ t3) = false := decide_eq_false e4; have hw3 : IntKind.i64.wrap (t3 + 1) = wrap64 (t3 + 1) := i64_w _; obtain ⟨⟨n4, t4⟩, h4, hx⟩ := Option.bind_eq_some_iff.mp hx; have H4 := A0 h4; clear h4
    dsimp only at hx
    by_cases e5 : t4 = 0
    ·rw [if_pos e5] at hx
     obtain ⟨rfl, rfl, rfl⟩ : false = ok ∧ z51 = x ∧ 0 = q := (by simpa only [Option.some.injEq, Prod.mk.injEq] using hx); obtain ⟨rfl, rfl⟩ : [] = r1 ∧ false = r2 := (by have h := HS.out; simpa only [Bool.false_eq_true, if_false, Option.some.injEq, Prod.mk.injEq] using h); clear hx
     subst e5
     go_wp2_with (first | (go_at_call 86; (with_reducible refine (spec_l1Var.calls k A0_ c0 l0 _ _ _ _ (Kd.C_below HR0.out (spec_l7Entries.Se.bel (seK S.out))) HC0.out H1.out).mono ?_); rintro e w31 ⟨rfl, hd⟩; have S2 := A0 (spec_l7Entries.Se.below (seK S.out) hd.below); clear S hd H1; have S := S2; clear S2) | (go_at_call 86; (with_reducible refine (spec_l1Var.calls k A0_ c0 l0 _ _ _ _ (Kd.C_below HR0.out (spec_l7Entries.Se.bel (seK S.out))) HC0.out H2.out).mono ?_); rintro e w32 ⟨rfl, hd⟩; have S2 := A0 (spec_l7Entries.Se.below (seK S.out) hd.below); clear S hd H2; have S := S2; clear S2) | (go_at_call 86; (with_reducible refine (spec_l1Var.calls k A0_ c0 l0 _ _ _ _ (Kd.C_below HR0.out (spec_l7Entries.Se.bel (seK S.out))) HC0.out H3.out).mono ?_); rintro e w33 ⟨rfl, hd⟩; have S2 := A0 (spec_l7Entries.Se.below (seK S.out) hd.below); clear S hd H3; have S := S2; clear S2) | (go_at_call 86; (with_reducible refine (spec_l1Var.calls k A0_ c0 l0 _ _ _ _ (Kd.C_below HR0.out (spec_l7Entries.Se.bel (seK S.out))) HC0.out H4.out).mono ?_); rintro e w34 ⟨rfl, hd⟩; have S2 := A0 (spec_l7Entries.Se.below (seK S.out) hd.below); clear S hd H4; have S := S2; clear S2))
     go_ret2; exact ⟨.slice none 0 0, rfl, spec_l7Entries.Ents.nil _ _, spec_l7Entries.Se.bel (seK S.out)⟩
    rw [if_neg e5] at hx; have e5b : (t4 == 0) = false := beq_eq_false_iff_ne.mpr e5
    by_cases hg : 0 ≤ n1 ∧ 0 ≤ n2 ∧ 0 ≤ n3 ∧ 0 ≤ n4 ∧ 0 ≤ t3 ∧ 0 ≤ t4 ∧ t4 ≤ 1000000 ∧ bf.size ≤ 1000000 ∧ l0.length ≤ 1000000
    case neg => rw [if_neg hg] at hx; cases hx
    rw [if_pos hg] at hx; obtain ⟨g1, g2, g3, g4, g5, g6, g7, g8, g9⟩ := hg
    have hwb : IntKind.u64.wrap (bf.size : Int) = (bf.size : Int) := by rw [IntKind.wrap_u64]; omega
    by_cases q1 : (bf.size : Int) < n1
    ·rw [if_pos q1] at hx
     obtain ⟨rfl, rfl, rfl⟩ : false = ok ∧ z51 = x ∧ 0 = q := (by simpa only [Option.some.injEq, Prod.mk.injEq] using hx); obtain ⟨rfl, rfl⟩ : [] = r1 ∧ false = r2 := (by have h := HS.out; simpa only [Bool.false_eq_true, if_false, Option.some.injEq, Prod.mk.injEq] using h); clear hx
     have q1b : decide ((bf.size : Int) < n1) = true := decide_eq_true q1
     go_wp2_with (first | (go_at_call 86; (with_reducible refine (spec_l1Var.calls k A0_ c0 l0 _ _ _ _ (Kd.C_below HR0.out (spec_l7Entries.Se.bel (seK S.out))) HC0.out H1.out).mono ?_); rintro e w31 ⟨rfl, hd⟩; have S2 := A0 (spec_l7Entries.Se.below (seK S.out) hd.below); clear S hd H1; have S := S2; clear S2) | (go_at_call 86; (with_reducible refine (spec_l1Var.calls k A0_ c0 l0 _ _ _ _ (Kd.C_below HR0.out (spec_l7Entries.Se.bel (seK S.out))) HC0.out H2.out).mono ?_); rintro e w32 ⟨rfl, hd⟩; have S2 := A0 (spec_l7Entries.Se.below (seK S.out) hd.below); clear S hd H2; have S := S2; clear S2) | (go_at_call 86; (with_reducible refine (spec_l1Var.calls k A0_ c0 l0 _ _ _ _ (Kd.C_below HR0.out (spec_l7Entries.Se.bel (seK S.out))) HC0.out H3.out).mono ?_); rintro e w33 ⟨rfl, hd⟩; have S2 := A0 (spec_l7Entries.Se.below (seK S.out) hd.below); clear S hd H3; have S := S2; clear S2) | (go_at_call 86; (with_reducible refine (spec_l1Var.calls k A0_ c0 l0 _ _ _ _ (Kd.C_below HR0.out (spec_l7Entries.Se.bel (seK S.out))) HC0.out H4.out).mono ?_); rintro e w34 ⟨rfl, hd⟩; have S2 := A0 (spec_l7Entries.Se.below (seK S.out) hd.below); clear S hd H4; have S := S2; clear S2))
     go_ret2; exact ⟨.slice none 0 0, rfl, spec_l7Entries.Ents.nil _ _, spec_l7Entries.Se.bel (seK S.out)⟩
    rw [if_neg q1] at hx; have q1b : decide ((bf.size : Int) < n1) = false := decide_eq_false q1
    by_cases q2 : 8000 < n2
    ·rw [if_pos q2] at hx
     obtain ⟨rfl, rfl, rfl⟩ : false = ok ∧ z51 = x ∧ 0 = q := (by simpa only [Option.some.injEq, Prod.mk.injEq] using hx); obtain ⟨rfl, rfl⟩ : [] = r1 ∧ false = r2 := (by have h := HS.out; simpa only [Bool.false_eq_true, if_false, Option.some.injEq, Prod.mk.injEq] using h); clear hx
     have q2b : decide (8000 < n2) = true := decide_eq_true q2
     go_wp2_with (first | (go_at_call 86; (with_reducible refine (spec_l1Var.calls k A0_ c0 l0 _ _ _ _ (Kd.C_below HR0.out (spec_l7Entries.Se.bel (seK S.out))) HC0.out H1.out).mono ?_); rintro e w31 ⟨rfl, hd⟩; have S2 := A0 (spec_l7Entries.Se.below (seK S.out) hd.below); clear S hd H1; have S := S2; clear S2) | (go_at_call 86; (with_reducible refine (spec_l1Var.calls k A0_ c0 l0 _ _ _ _ (Kd.C_below HR0.out (spec_l7Entries.Se.bel (seK S.out))) HC0.out H2.out).mono ?_); rintro e w32 ⟨rfl, hd⟩; have S2 := A0 (spec_l7Entries.Se.below (seK S.out) hd.below); clear S hd H2; have S := S2; clear S2) | (go_at_call 86; (with_reducible refine (spec_l1Var.calls k A0_ c0 l0 _ _ _ _ (Kd.C_below HR0.out (spec_l7Entries.Se.bel (seK S.out))) HC0.out H3.out).mono ?_); rintro e w33 ⟨rfl, hd⟩; have S2 := A0 (spec_l7Entries.Se.below (seK S.out) hd.below); clear S hd H3; have S := S2; clear S2) | (go_at_call 86; (with_reducible refine (spec_l1Var.calls k A0_ c0 l0 _ _ _ _ (Kd.C_below HR0.out (spec_l7Entries.Se.bel (seK S.out))) HC0.out H4.out).mono ?_); rintro e w34 ⟨rfl, hd⟩; have S2 := A0 (spec_l7Entries.Se.below (seK S.out) hd.below); clear S hd H4; have S := S2; clear S2))
     go_ret2; exact ⟨.slice none 0 0, rfl, spec_l7Entries.Ents.nil _ _, spec_l7Entries.Se.bel (seK S.out)⟩
    rw [if_neg q2] at hx; have q2b : decide (8000 < n2) = false := decide_eq_false q2
    by_cases q3 : 8000 < n4
    ·rw [if_pos q3] at hx
     obtain ⟨rfl, rfl, rfl⟩ : false = ok ∧ z51 = x ∧ 0 = q := (by simpa only [Option.some.injEq, Prod.mk.injEq] using hx); obtain ⟨rfl, rfl⟩ : [] = r1 ∧ false = r2 := (by have h := HS.out; simpa only [Bool.false_eq_true, if_false, Option.some.injEq, Prod.mk.injEq] using h); clear hx
     have q3b : decide (8000 < n4) = true := decide_eq_true q3
     go_wp2_with (first | (go_at_call 86; (with_reducible refine (spec_l1Var.calls k A0_ c0 l0 _ _ _ _ (Kd.C_below HR0.out (spec_l7Entries.Se.bel (seK S.out))) HC0.out H1.out).mono ?_); rintro e w31 ⟨rfl, hd⟩; have S2 := A0 (spec_l7Entries.Se.below (seK S.out) hd.below); clear S hd H1; have S := S2; clear S2) | (go_at_call 86; (with_reducible refine (spec_l1Var.calls k A0_ c0 l0 _ _ _ _ (Kd.C_below HR0.out (spec_l7Entries.Se.bel (seK S.out))) HC0.out H2.out).mono ?_); rintro e w32 ⟨rfl, hd⟩; have S2 := A0 (spec_l7Entries.Se.below (seK S.out) hd.below); clear S hd H2; have S := S2; clear S2) | (go_at_call 86; (with_reducible refine (spec_l1Var.calls k A0_ c0 l0 _ _ _ _ (Kd.C_below HR0.out (spec_l7Entries.Se.bel (seK S.out))) HC0.out H3.out).mono ?_); rintro e w33 ⟨rfl, hd⟩; have S2 := A0 (spec_l7Entries.Se.below (seK S.out) hd.below); clear S hd H3; have S := S2; clear S2) | (go_at_call 86; (with_reducible refine (spec_l1Var.calls k A0_ c0 l0 _ _ _ _ (Kd.C_below HR0.out (spec_l7Entries.Se.bel (seK S.out))) HC0.out H4.out).mono ?_); rintro e w34 ⟨rfl, hd⟩; have S2 := A0 (spec_l7Entries.Se.below (seK S.out) hd.below); clear S hd H4; have S := S2; clear S2))
     go_ret2; exact ⟨.slice none 0 0, rfl, spec_l7Entries.Ents.nil _ _, spec_l7Entries.Se.bel (seK S.out)⟩
    rw [if_neg q3] at hx; have q3b : decide (8000 < n4) = false := decide_eq_false q3
    by_cases q4 : 1099511627776 < n3
    ·rw [if_pos q4] at hx
     obtain ⟨rfl, rfl, rfl⟩ : false = ok ∧ z51 = x ∧ 0 = q := (by simpa only [Option.some.injEq, Prod.mk.injEq] using hx); obtain ⟨rfl, rfl⟩ : [] = r1 ∧ false = r2 := (by have h := HS.out; simpa only [Bool.false_eq_true, if_false, Option.some.injEq, Prod.mk.injEq] using h); clear hx
     have q4b : decide (1099511627776 < n3) = true := decide_eq_true q4
     go_wp2_with (first | (go_at_call 86; (with_reducible refine (spec_l1Var.calls k A0_ c0 l0 _ _ _ _ (Kd.C_below HR0.out (spec_l7Entries.Se.bel (seK S.out))) HC0.out H1.out).mono ?_); rintro e w31 ⟨rfl, hd⟩; have S2 := A0 (spec_l7Entries.Se.below (seK S.out) hd.below); clear S hd H1; have S := S2; clear S2) | (go_at_call 86; (with_reducible refine (spec_l1Var.calls k A0_ c0 l0 _ _ _ _ (Kd.C_below HR0.out (spec_l7Entries.Se.bel (seK S.out))) HC0.out H2.out).mono ?_); rintro e w32 ⟨rfl, hd⟩; have S2 := A0 (spec_l7Entries.Se.below (seK S.out) hd.below); clear S hd H2; have S := S2; clear S2) | (go_at_call 86; (with_reducible refine (spec_l1Var.calls k A0_ c0 l0 _ _ _ _ (Kd.C_below HR0.out (spec_l7Entries.Se.bel (seK S.out))) HC0.out H3.out).mono ?_); rintro e w33 ⟨rfl, hd⟩; have S2 := A0 (spec_l7Entries.Se.below (seK S.out) hd.below); clear S hd H3; have S := S2; clear S2) | (go_at_call 86; (with_reducible refine (spec_l1Var.calls k A0_ c0 l0 _ _ _ _ (Kd.C_below HR0.out (spec_l7Entries.Se.bel (seK S.out))) HC0.out H4.out).mono ?_); rintro e w34 ⟨rfl, hd⟩; have S2 := A0 (spec_l7Entries.Se.below (seK S.out) hd.below); clear S hd H4; have S := S2; clear S2))
     go_ret2; exact ⟨.slice none 0 0, rfl, spec_l7Entries.Ents.nil _ _, spec_l7Entries.Se.bel (seK S.out)⟩
    rw [if_neg q4] at hx; have q4b : decide (1099511627776 < n3) = false := decide_eq_false q4
    have w1 : IntKind.i64.wrap n2 = n2 := by rw [i64_w]; unfold wrap64; omega
    have w2 : IntKind.i64.wrap n4 = n4 := by rw [i64_w]; unfold wrap64; omega
    have w3 : IntKind.i64.wrap (t4 + n2) = t4 + n2 := by rw [i64_w]; unfold wrap64; omega
    have w4 : IntKind.i64.wrap (t4 + n2 + n4) = t4 + n2 + n4 := by rw [i64_w]; unfold wrap64; omega
    have w5 : IntKind.i64.wrap n3 = n3 := by rw [i64_w]; unfold wrap64; omega
    by_cases q5 : (l0.length : Int) < t4 + n2 + n4
    ·rw [if_pos q5] at hx
     obtain ⟨rfl, rfl, rfl⟩ : false = ok ∧ z51 = x ∧ 0 = q := (by simpa only [Option.some.injEq, Prod.mk.injEq] using hx); obtain ⟨rfl, rfl⟩ : [] = r1 ∧ false = r2 := (by have h := HS.out; simpa only [Bool.false_eq_true, if_false, Option.some.injEq, Prod.mk.injEq] using h); clear hx
     have q5b : decide ((l0.length : Int) < t4 + n2 + n4) = true := decide_eq_true q5
     go_wp2_with (first | (go_at_call 86; (with_reducible refine (spec_l1Var.calls k A0_ c0 l0 _ _ _ _ (Kd.C_below HR0.out (spec_l7Entries.Se.bel (seK S.out))) HC0.out H1.out).mono ?_); rintro e w31 ⟨rfl, hd⟩; have S2 := A0 (spec_l7Entries.Se.below (seK S.out) hd.below); clear S hd H1; have S := S2; clear S2) | (go_at_call 86; (with_reducible refine (spec_l1Var.calls k A0_ c0 l0 _ _ _ _ (Kd.C_below HR0.out (spec_l7Entries.Se.bel (seK S.out))) HC0.out H2.out).mono ?_); rintro e w32 ⟨rfl, hd⟩; have S2 := A0 (spec_l7Entries.Se.below (seK S.out) hd.below); clear S hd H2; have S := S2; clear S2) | (go_at_call 86; (with_reducible refine (spec_l1Var.calls k A0_ c0 l0 _ _ _ _ (Kd.C_below HR0.out (spec_l7Entries.Se.bel (seK S.out))) HC0.out H3.out).mono ?_); rintro e w33 ⟨rfl, hd⟩; have S2 := A0 (spec_l7Entries.Se.below (seK S.out) hd.below); clear S hd H3; have S := S2; clear S2) | (go_at_call 86; (with_reducible refine (spec_l1Var.calls k A0_ c0 l0 _ _ _ _ (Kd.C_below HR0.out (spec_l7Entries.Se.bel (seK S.out))) HC0.out H4.out).mono ?_); rintro e w34 ⟨rfl, hd⟩; have S2 := A0 (spec_l7Entries.Se.below (seK S.out) hd.below); clear S hd H4; have S := S2; clear S2))
     go_ret2; exact ⟨.slice none 0 0, rfl, spec_l7Entries.Ents.nil _ _, spec_l7Entries.Se.bel (seK S.out)⟩
    rw [if_neg q5] at hx; have q5b : decide ((l0.length : Int) < t4 + n2 + n4) = false := decide_eq_false q5
    go_wp2_with (first | (go_at_call 86; (with_reducible refine (spec_l1Var.calls k A0_ c0 l0 _ _ _ _ (Kd.C_below HR0.out (spec_l7Entries.Se.bel (seK S.out))) HC0.out H1.out).mono ?_); rintro e w31 ⟨rfl, hd⟩; have S2 := A0 (spec_l7Entries.Se.below (seK S.out) hd.below); clear S hd H1; have S := S2; clear S2) | (go_at_call 86; (with_reducible refine (spec_l1Var.calls k A0_ c0 l0 _ _ _ _ (Kd.C_below HR0.out (spec_l7Entries.Se.bel (seK S.out))) HC0.out H2.out).mono ?_); rintro e w32 ⟨rfl, hd⟩; have S2 := A0 (spec_l7Entries.Se.below (seK S.out) hd.below); clear S hd H2; have S := S2; clear S2) | (go_at_call 86; (with_reducible refine (spec_l1Var.calls k A0_ c0 l0 _ _ _ _ (Kd.C_below HR0.out (spec_l7Entries.Se.bel (seK S.out))) HC0.out H3.out).mono ?_); rintro e w33 ⟨rfl, hd⟩; have S2 := A0 (spec_l7Entries.Se.below (seK S.out) hd.below); clear S hd H3; have S := S2; clear S2) | (go_at_call 86; (with_reducible refine (spec_l1Var.calls k A0_ c0 l0 _ _ _ _ (Kd.C_below HR0.out (spec_l7Entries.Se.bel (seK S.out))) HC0.out H4.out).mono ?_); rintro e w34 ⟨rfl, hd⟩; have S2 := A0 (spec_l7Entries.Se.below (seK S.out) hd.below); clear S hd H4; have S := S2; clear S2))
    obtain ⟨ad, eA, hb3⟩ := Kd.at_int HR0.out t3 g5 (by omega); subst eA; obtain ⟨M, hM⟩ : ∃ M : List Int, M = (l0.take (t4 + n2).toNat).drop t4.toNat := ⟨_, rfl⟩; rw [← hM] at hx
    have hML : M.length = (t4 + n2).toNat - t4.toNat := by rw [hM, List.length_drop, List.length_take]; omega
    have hcc := HC0.out
    have HCV := A0 (show ∀ w', Below w.heap.size w w' → (convert 24 9 (.slice (if c0 = t4.toNat then some ad else some (ad.add t4.toNat)) ((t4 + n2).toNat - t4.toNat) (c0 - t4.toNat))).run Try.prog w' = .ok (.string (strOfNums M)) w' ∧ w'.cell? (ad.add t3.toNat) = some (.int .u8 (rd l0 t3)) from fun w' hV => ⟨by
     have h3 := Kd.C_mid (lo := t4.toNat) (hi := (t4 + n2).toNat) (c := c0) (Kd.C_below HR0.out hV) (by omega) (by omega) hcc; simp only [show (Kd.int .u8).sz = 1 from rfl, Nat.mul_one] at h3; rw [← hM] at h3; have h4 := Kd.C_string (P := Try.prog) (c := c0 - t4.toNat) Try.underlying24 Try.underlying5 Try.underlying9 h3; rw [hML] at h4
     exact h4, (hV.cell (World.block_lt_of_cell? w _ hb3)).trans hb3⟩)
    have HML := A0 hML; have HM := A0 hM
    have hk1 : (0 : Int) ≤ t4 + n2 := by omega
    have hk2 : t4 + n2 ≤ (c0 : Int) := by omega
    have hk3 : t4 ≤ max (t4 + n2) 0 := by omega
    have hk4 : n1 ≤ (bf.size : Int) := by omega
    have hk5 : t3 < (l0.length : Int) := by omega
    have hk6 : ¬ 9223372036854775807 < n1.toNat + (strOfNums M).size := by rw [strOfNums_size]; omega
    clear hM hML hcc hb3; have S9 := A0 (spec_l7Entries.Se.drew (seK S.out)); refine start_ (n := 22) (S := fun w' => (convert 24 9 (.slice (if c0 = t4.toNat then some ad else some (ad.add t4.toNat)) ((t4 + n2).toNat - t4.toNat) (c0 - t4.toNat))).run Try.prog w' = .ok (.string (strOfNums M)) w' ∧ w'.cell? (ad.add t3.toNat) = some (.int .u8 (rd l0 t3))) (ds := []) bq9_0 (by kernel_rfl) rfl rfl (HCV.out _ S9.out.bel) (fun hHeld => ?_); clear S; generalize World.drew _ = w40 at S9 hHeld ⊢; refine pu_ 0 98 ?_
    refine pu_ 1 99 ?_
    refine pu_ 2 100 ?_
    refine pu_ 3 101 ?_
    refine pu_ 4 102 ?_
    refine pu_ 5 103 ?_
    refine pu_ 6 104 ?_
    refine pu_ 7 105 ?_
    refine pu_ 8 106 ?_
    refine pu_ 9 107 ?_
    refine tk_ 10 108 hHeld ?_
    refine pu_ 11 109 ?_
    refine pu_ 12 110 ?_
    refine pu_ 13 111 ?_
    refine pu_ 14 112 ?_
    refine pu_ 15 113 ?_
    refine pu_ 16 114 ?_
    refine tk_ 17 115 hHeld ?_
    refine pu_ 18 116 ?_
    refine pu_ 19 117 ?_
    refine on_ 20 17 (fun K hK => ?_); refine box_step ?hg (N := 17) ?hd (cs := #[.string (⟨#[]⟩ : ByteArray), .int .i64 0, .int .i64 0, .int .i64 0, .int .i64 0, .int .i64 0, .int .i64 0, .slice none 0 0, .bool false]) (t := 51) ?hr ?_; (case hd => rfl); (case hg => rfl); (case hr => first | (go_simp; done) | (go_simp; rfl)); intro g17 hg w42 hbox hb; have GE := A0 (show w.heap.size ≤ g17 by rw [hg]; exact S9.out.bel.size); have NV := A0 (show some g17 ≠ (Value.slice Ao E.length co).ownBlock from fun e => Nat.lt_irrefl g17 (by have h9 := S9.out.ents.lt g17 e.symm; rwa [← hg] at h9)); have S := A0 (spec_l7Entries.Se.below S9.out hb); have BK := A0 hbox; clear hg hbox hb; refine hK.out _ _ (HCV.out _ S.out.bel) (fun hHeld => ?_); clear hK K; refine norm_ (a' := ?_) ?_ ?_; rotate_left
    ·show Act.put _ (some 17) _ = _
     simp only [Act.put, sq_a, sq_b, sq_c, i64_w, i32_w]; rfl
    obtain ⟨_, _, _, _, _, _, _, _, _⟩ := kc9 BK.out; obtain ⟨_, _, _, _, _, _, _, _, _⟩ := kf9 BK.out; refine on0_ 21 (fun K hK => ?_); refine skip_ (w1 := ?_) (by rfl) rfl ?_ ?_; rotate_left; · go_simp; rfl
    have S2 := A0 (spec_l7Entries.Se.far S.out BK.out NV.out (by decide) ((((((((((On.refl g17 w42).set 0 (.string (bf.extract 0 n1.toNat ++ strOfNums M))).set 1 (.int .i64 n3)).set 2 (.int .i64 (wrap64 (rd l0 t3)))).set 3 (.int .i64 0)).set 4 (.int .i64 0)).set 5 (.int .i64 0)).set 6 (.int .i64 0)).set 7 (.slice none 0 0)).set 8 (.bool false)) GE.out); have B2 := A0 (p9 (x0 := .string (bf.extract 0 n1.toNat ++ strOfNums M)) (x1 := .int .i64 n3) (x2 := .int .i64 (wrap64 (rd l0 t3))) (x3 := .int .i64 0) (x4 := .int .i64 0) (x5 := .int .i64 0) (x6 := .int .i64 0) (x7 := .slice none 0 0) (x8 := .bool false) BK.out); refine hK.out _ _ (HCV.out _ S2.out.bel) (fun hHeld => ?_); clear hK K; refine done_ (by kernel_rfl) ?_; clear hHeld S BK HCV; have S := S2; have BK := B2; clear S2 B2
    unfold spec_l7Entries.tail at hx
    have hne : 0 < n4 → ¬ c0 = (t4 + n2).toNat := fun h0 => by have := HC0.out; omega
    generalize (if c0 = t4.toNat then some ad else some (ad.add t4.toNat)) = A107
    go_upto_if 126 with (fail)
    go_cut [7] (fun v7 wc => v7 = .int .i64 q ∧ ok = true ∧ ∃ (Aq : Option Addr) (cq : Nat), Aside0 (spec_l7Entries.Se w wc (.slice Ao E.length co) E) ∧ Aside0 (wc.heap[g17]? = some (.cells #[.string x.f0, .int .i64 x.f1, .int .i64 x.f2, .int .i64 x.f3.f0, .int .i64 x.f3.f1, .int .i64 x.f3.f2, .int .i64 x.f3.f3, .slice Aq x.f3.f4.length cq, .bool x.f3.f5] 51 (0, 0))) ∧ Aside0 (Kd.Q (Kd.int .i64) 3 wc w.heap.size (fun _ => True) (.slice Aq x.f3.f4.length cq) x.f3.f4))
    case first =>
     by_cases hn : 0 < n4
     ·rw [if_pos hn] at hx
      have hnb : decide (0 < n4) = true := decide_eq_true hn; (first | rw [hnb] | skip); have hne2 := hne hn; obtain ⟨⟨y1, y2, y3, y4, y5, y6, y7⟩, hra, hx⟩ := Option.bind_eq_some_iff.mp hx; obtain ⟨M2, hM2⟩ : ∃ M2 : List Int, M2 = (l0.take (t4 + n2 + n4).toNat).drop (t4 + n2).toNat := ⟨_, rfl⟩; rw [← hM2] at hra
      have hML2 : (t4 + n2 + n4).toNat - (t4 + n2).toNat = M2.length := by rw [hM2, List.length_drop, List.length_take]; omega
      have hcc := HC0.out
      have HC2 := A0 (show ∀ V, Below w.heap.size w V → Kd.C (Kd.int .u8) V (some (ad.add (t4 + n2).toNat)) M2.length M2 from fun V hV => by
       have h3 := Kd.C_mid (lo := (t4 + n2).toNat) (hi := (t4 + n2 + n4).toNat) (c := c0) (Kd.C_below HR0.out hV) (by omega) (by omega) hcc; simp only [show (Kd.int .u8).sz = 1 from rfl, Nat.mul_one] at h3; rw [← hM2, if_neg hne2] at h3
       exact h3)
      have HRA := A0 hra; have HM2 := A0 hML2; have HL2 := A0 (show M2.length ≤ c0 - (t4 + n2).toNat by omega)
      have hk7 : (0 : Int) ≤ t4 + n2 + n4 := by omega
      have hk8 : t4 + n2 + n4 ≤ (c0 : Int) := by omega
      have hk9 : t4 + n2 ≤ max (t4 + n2 + n4) 0 := by omega
      clear hra hML2 hcc hM2; simp only [Option.some.injEq, Prod.mk.injEq] at hx; obtain ⟨rfl, rfl, rfl⟩ := hx
      cases y7 with
      | false =>
       obtain ⟨rfl, rfl⟩ : [] = r1 ∧ false = r2 := (by have h := HS.out; simpa only [Bool.false_eq_true, if_false, Option.some.injEq, Prod.mk.injEq] using h)
       go_wp2_with (first | (go_at_call 87; rw [HM2.out]; (with_reducible refine (spec_ReadAgg.calls k (some (ad.add (t4 + n2).toNat)) (c0 - (t4 + n2).toNat) M2 y1 y2 y3 y4 y5 y6 _ _ (HC2.out _ (spec_l7Entries.Se.bel (seK S.out))) HL2.out HRA.out).mono ?_); rintro e w50 ⟨v4, rfl, ho, hb⟩; obtain ⟨A4, c4_, e4_⟩ := Kd.R_slice ho; subst e4_; have QH := A0 (Kd.Q_lower (Kd.Q_of_R ho) (spec_l7Entries.Se.bel (seK S.out)).size); have S2 := A0 (spec_l7Entries.Se.below (seK S.out) hb); have BK2 := A0 (blk_below (bK BK.out) hb); clear S BK ho hb HRA HC2; have S := S2; have BK := BK2; clear S2 BK2) | ((with_reducible refine gate_dst (N := 18) rfl ?_); refine box_event ?hg (N := 18) ?hd (cs := #[.int .i64 0, .int .i64 0, .int .i64 0, .int .i64 0, .slice none 0 0, .bool false]) (t := 49) ?hr ?_; (case hd => rfl); (case hg => rfl); (case hr => first | (go_simp; done) | (go_simp; rfl)); intro g18 hg w51 hbox hb; have G18 := A0 (show w.heap.size ≤ g18 by rw [hg]; exact (spec_l7Entries.Se.bel (seK S.out)).size); have NE := A0 (show g17 ≠ g18 by rw [hg]; exact Nat.ne_of_lt (blk_lt (bK BK.out))); have NV2 := A0 (show some g18 ≠ (Value.slice Ao E.length co).ownBlock from fun e => Nat.lt_irrefl g18 (by have h9 := (spec_l7Entries.Se.ents (seK S.out)).lt g18 e.symm; rwa [← hg] at h9)); have QH2 := A0 (Kd.Q_below (show Kd.Q (Kd.int .i64) 3 _ w.heap.size (fun _ => True) (.slice A4 y5.length c4_) y5 from (by with_reducible repeat (first | exact QH.out | apply Kd.Q_drewN | apply Kd.Q_drew))) hb); have S2 := A0 (spec_l7Entries.Se.below (seK S.out) hb); have BK2 := A0 (blk_below (bK BK.out) hb); have B18 := A0 hbox; clear S QH BK hg hbox hb; have S := S2; have QH := QH2; have BK := BK2; clear S2 QH2 BK2; obtain ⟨_, _, _, _, _, _⟩ := kc6 B18.out; obtain ⟨_, _, _, _, _, _⟩ := kf6 B18.out; obtain ⟨_, _, _, _, _, _, _, _, _⟩ := kc9 BK.out; obtain ⟨_, _, _, _, _, _, _, _, _⟩ := kf9 BK.out; have z1 := NE.out; have z2 := NE.out.symm))
       go_ret2
       exact ⟨.slice none 0 0, rfl, spec_l7Entries.Ents.nil _ _, ((((((((On.refl g18 _).set 0 (.int .i64 y1)).set 1 (.int .i64 y2)).set 2 (.int .i64 y3)).set 3 (.int .i64 y4)).set 4 (.slice A4 y5.length c4_)).set 5 (.bool y6))).below S.out.bel G18.out⟩
      | true =>
       go_wp2_with (first | (go_at_call 87; rw [HM2.out]; (with_reducible refine (spec_ReadAgg.calls k (some (ad.add (t4 + n2).toNat)) (c0 - (t4 + n2).toNat) M2 y1 y2 y3 y4 y5 y6 _ _ (HC2.out _ (spec_l7Entries.Se.bel (seK S.out))) HL2.out HRA.out).mono ?_); rintro e w50 ⟨v4, rfl, ho, hb⟩; obtain ⟨A4, c4_, e4_⟩ := Kd.R_slice ho; subst e4_; have QH := A0 (Kd.Q_lower (Kd.Q_of_R ho) (spec_l7Entries.Se.bel (seK S.out)).size); have S2 := A0 (spec_l7Entries.Se.below (seK S.out) hb); have BK2 := A0 (blk_below (bK BK.out) hb); clear S BK ho hb HRA HC2; have S := S2; have BK := BK2; clear S2 BK2) | ((with_reducible refine gate_dst (N := 18) rfl ?_); refine box_event ?hg (N := 18) ?hd (cs := #[.int .i64 0, .int .i64 0, .int .i64 0, .int .i64 0, .slice none 0 0, .bool false]) (t := 49) ?hr ?_; (case hd => rfl); (case hg => rfl); (case hr => first | (go_simp; done) | (go_simp; rfl)); intro g18 hg w51 hbox hb; have G18 := A0 (show w.heap.size ≤ g18 by rw [hg]; exact (spec_l7Entries.Se.bel (seK S.out)).size); have NE := A0 (show g17 ≠ g18 by rw [hg]; exact Nat.ne_of_lt (blk_lt (bK BK.out))); have NV2 := A0 (show some g18 ≠ (Value.slice Ao E.length co).ownBlock from fun e => Nat.lt_irrefl g18 (by have h9 := (spec_l7Entries.Se.ents (seK S.out)).lt g18 e.symm; rwa [← hg] at h9)); have QH2 := A0 (Kd.Q_below (show Kd.Q (Kd.int .i64) 3 _ w.heap.size (fun _ => True) (.slice A4 y5.length c4_) y5 from (by with_reducible repeat (first | exact QH.out | apply Kd.Q_drewN | apply Kd.Q_drew))) hb); have S2 := A0 (spec_l7Entries.Se.below (seK S.out) hb); have BK2 := A0 (blk_below (bK BK.out) hb); have B18 := A0 hbox; clear S QH BK hg hbox hb; have S := S2; have QH := QH2; have BK := BK2; clear S2 QH2 BK2; obtain ⟨_, _, _, _, _, _⟩ := kc6 B18.out; obtain ⟨_, _, _, _, _, _⟩ := kf6 B18.out; obtain ⟨_, _, _, _, _, _, _, _, _⟩ := kc9 BK.out; obtain ⟨_, _, _, _, _, _, _, _, _⟩ := kf9 BK.out; have z1 := NE.out; have z2 := NE.out.symm))
       go_meet
       case rel =>
        refine ⟨rfl, by first | rfl | trivial, A4, c4_, ⟨spec_l7Entries.Se.far (spec_l7Entries.Se.far S.out B18.out NV2.out (by decide) (((((((On.refl g18 w51).set 0 (.int .i64 y1)).set 1 (.int .i64 y2)).set 2 (.int .i64 y3)).set 3 (.int .i64 y4)).set 4 (.slice A4 y5.length c4_)).set 5 (.bool y6)) G18.out) (bF BK.out z1) NV.out (by decide) (((((((On.refl g17 _).set 3 (.int .i64 y1)).set 4 (.int .i64 y2)).set 5 (.int .i64 y3)).set 6 (.int .i64 y4)).set 7 (.slice A4 y5.length c4_)).set 8 (.bool y6)) GE.out⟩, ⟨by exact (blk_put (blk_put (blk_put (blk_put (blk_put (blk_put (bF BK.out z1) 3 (.int .i64 y1) rfl) 4 (.int .i64 y2) rfl) 5 (.int .i64 y3) rfl) 6 (.int .i64 y4) rfl) 7 (.slice A4 y5.length c4_) rfl) 8 (.bool y6) rfl)⟩, ⟨Kd.Q_mono (Kd.Q_kept (S := fun k => k = g17 ∨ k = g18) (Kd.Q_types (Kd.Q_types QH.out BK.out (by decide)) B18.out (by decide)) ?hk (fun k h hs => by rcases hs with e | e; exact h.1.2 e; exact h.2 e)) (fun _ _ => trivial)⟩⟩
        with_reducible repeat (first | exact Kept.refl _ _ | apply Kept.drewN | apply Kept.drew | refine Kept.setCell ?_ (.inl (.inl rfl)) _ | refine Kept.setCell ?_ (.inl (.inr rfl)) _)
     ·rw [if_neg hn] at hx
      have hnb : decide (0 < n4) = false := decide_eq_false hn; (first | rw [hnb] | skip); simp only [Option.some.injEq, Prod.mk.injEq] at hx; obtain ⟨rfl, rfl, rfl⟩ := hx
      go_wp2
      go_meet
      case rel => exact ⟨rfl, by first | rfl | trivial, none, 0, ⟨(seK S.out)⟩, ⟨bK BK.out⟩, ⟨Kd.Q_nil _ _ _ _ _⟩⟩
    case rest =>
     clear S BK hx; obtain ⟨rfl, rfl, Aq, cq, S, BK, QH⟩ := hcut; obtain ⟨_, _, _, _, _, _, _, _, _⟩ := kc9 BK.out; obtain ⟨_, _, _, _, _, _, _, _, _⟩ := kf9 BK.out; have hs := HS.out; rw [if_pos rfl] at hs; have HJ2 := A0 hs; clear hs HS; obtain ⟨cs, e1, e2, e3⟩ := S.out.ents.row; have E1 := A0 e1; have E2 := A0 e2; have E3 := A0 e3; clear e1 e2 e3
     go_wp2_with (first | ((with_reducible refine gate_builtin (b := .append) (xs := #[.tmp 144, .tmp 146]) rfl ?_); at_builtin; refine Kd.R_append (Kd.raw 9) (w0 := w) w.heap.size rfl (.tmp 144) (.tmp 146) 27 51 (.agg #[(.string ⟨#[]⟩), (.int .i64 0), (.int .i64 0), (.int .i64 0), (.int .i64 0), (.int .i64 0), (.int .i64 0), (.slice none 0 0), (.bool false)]) 96 rfl Try.underlying27 info51 rfl (by decide) (by omega) (.slice Ao E.length co) cs (spec_l7Entries.cells x Aq cq) [.string x.f0, .int .i64 x.f1, .int .i64 x.f2, .int .i64 x.f3.f0, .int .i64 x.f3.f1, .int .i64 x.f3.f2, .int .i64 x.f3.f3, .slice Aq x.f3.f4.length cq, .bool x.f3.f5] (fun _ => True) (fun _ => False) rfl rfl ?aP (fun _ hk => hk.elim) ?aF ?aO ?aB ?aS ?aL ?_; (case aP => exact ⟨rfl, rfl, by simp [Value.oneCell']⟩); (case aB => exact S.out.bel); (case aF => exact (fun _ _ => trivial)); (case aO => exact E1.out); (case aS => exact S.out.bel.size); (case aL => (have h1 := E2.out); (have h2 := HE.out); omega); intro v147 w60 ho8 hb8 hg8 hat8; have S3 := A0 (show spec_l7Entries.Se w w60 v147 (E ++ [x]) from ⟨hb8, S.out.ents.grown E1.out E2.out E3.out QH.out ho8 hg8⟩); clear ho8 hb8 hg8 hat8))
     go_roundg d
     case measure => have h1 := HD.out; omega
     case rel => exact ⟨d, E ++ [x], q, x.f0, Nat.le_refl _, by have h1 := HE.out; rw [List.length_append]; simp only [List.length_cons, List.length_nil]; omega, rfl, rfl, HJ2, ⟨seK S3.out⟩⟩
end Go.Proofs.Ytllmlnagihlokaa.PFnExactBoundsOf
