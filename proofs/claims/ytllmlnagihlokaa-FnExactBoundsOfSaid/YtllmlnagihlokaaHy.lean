/- Words of this session beside the print's: bytes in a block that a conversion from a text has made (the model marks such a block; none of its cells is frozen). -/
import Derived.Test.YtllmlnagihlokaaHx
import Derived.Deep.Upon
import Derived.Lib.ConvBytes
set_option linter.unusedVariables false
namespace Go.Proofs.YtllmlnagihlokaaW.PrintWords
open Go.RowKit
structure Yat (e : Nat) (W : World) (base : Nat) (ok : Nat → Prop) (g c : Nat) (xs : List Int) : Prop where
  base : base ≤ g
  ok : ok g
  obj : ∃ cur fz, W.heap[g]? = some (.cells cur e fz)
  le : xs.length ≤ c
  max : c ≤ maxLen
  cells : ∀ j u, (xs.map (Value.int .u8))[j]? = some u → W.cell? ⟨g, j, none⟩ = some u
  there : ∀ j, j < c → (W.cell? ⟨g, j, none⟩).isSome = true ∧ W.frozen? ⟨g, j, none⟩ = false
theorem Yat.lt {e base g c : Nat} {W : World} {ok : Nat → Prop} {xs : List Int} (h : Yat e W base ok g c xs) : g < W.heap.size := by
  obtain ⟨cur, fz, hb⟩ := h.obj
  exact (Array.getElem?_eq_some_iff.1 hb).1
theorem Yat.carry {e base g c : Nat} {W V : World} {ok : Nat → Prop} {xs : List Int} (h : Yat e W base ok g c xs) (hb : V.heap[g]? = W.heap[g]?) : Yat e V base ok g c xs :=
  ⟨h.base, h.ok, by rw [hb]; exact h.obj, h.le, h.max, fun j u hu => (World.cell?_of_block (a := ⟨g, j, none⟩) hb).trans (h.cells j u hu), fun j hj => ⟨by rw [World.cell?_of_block (a := ⟨g, j, none⟩) hb]; exact (h.there j hj).1, (World.frozen?_of_block (a := ⟨g, j, none⟩) hb).trans (h.there j hj).2⟩⟩
def Kd.Y (d : Kd Int) (e : Nat) (W : World) (base : Nat) (ok : Nat → Prop) (v : Value) (xs : List Int) : Prop := (v = .slice none 0 0 ∧ xs = []) ∨ ∃ g c, v = .slice (some ⟨g, 0, none⟩) xs.length c ∧ Yat e W base ok g c xs
section
variable {d : Kd Int} {e base g c : Nat} {W V : World} {ok ok' : Nat → Prop} {xs ys : List Int} {v : Value}
end
theorem obj_setCells {e g : Nat} : ∀ (vs : List Value) (o : Nat) (W : World), (∃ cur fz, W.heap[g]? = some (.cells cur e fz)) → ∃ cur fz, (W.setCells g o vs).heap[g]? = some (.cells cur e fz)
  | [], _, _, h => h
  | u :: vs, o, W, ⟨cur, fz, h⟩ => by
    refine obj_setCells vs (o + 1) (W.setCell ⟨g, o, none⟩ u) ⟨cur.setIfInBounds o u, fz, ?_⟩
    show (W.heap.modify g _)[g]? = _
    rw [Array.getElem?_modify, if_pos rfl, h]
    rfl
section
variable {P : Program} {ops : Array Oper} {rest : List Oper} {o : Oper} {a : Act} {Q : Exit → Act → World → Prop}
theorem Yat.append {w0 W : World} {e base g c : Nat} {xs ys : List Int} (hgd : o.guard = none) (s x : Operand) (t tx : TypeId)
    (ho : o.op = .call { callee := .builtin .append, args := #[s, x], argTypes := #[t, tx] })
    (ht : P.underlying t = some (.slice e)) (hinfo : (P.info? e).map (fun i => (i.zero, i.size, i.bytes)) = some (some (.int .u8 0), 1, 1))
    (hs : a.eval s = .slice (some ⟨g, 0, none⟩) xs.length c) (xv : Value) (hx : a.eval x = xv) (hsrc : Src P 1 tx xv ys.length (ys.map (Value.int .u8)) W)
    (HY : Yat e W base (fun _ => True) g c xs) (HB : Below base w0 W) (hbase : base ≤ W.heap.size) (hl : xs.length + ys.length ≤ 1099511627776)
    (h : ∀ g1 c1 w1, (g1 = g ∨ W.heap.size ≤ g1) → Yat e w1 base (fun _ => True) g1 c1 (xs ++ ys) → Below base w0 w1 → W.heap.size ≤ w1.heap.size → (∀ i, i < W.heap.size → i ≠ g → w1.heap[i]? = W.heap[i]?) → wpList P ops Q rest (a.put o.dst (.slice (some ⟨g1, 0, none⟩) (xs ++ ys).length c1)) w1) : wpList P ops Q (o :: rest) a W := by
  obtain ⟨i, hi, hz, hsz, hby⟩ := info_parts hinfo
  refine wpList_plain hgd fun K hK' => ?_
  have hlen : (ys.map (Value.int .u8)).length = ys.length := List.length_map _
  suffices hrun : ∃ g1 c1 w1, (Builtin.append_ #[t, tx] o.type #[.slice (some ⟨g, 0, none⟩) xs.length c, xv]).run P W = .ok (.slice (some ⟨g1, 0, none⟩) (xs ++ ys).length c1) w1 ∧ (g1 = g ∨ W.heap.size ≤ g1) ∧ Yat e w1 base (fun _ => True) g1 c1 (xs ++ ys) ∧ Below base w0 w1 ∧ W.heap.size ≤ w1.heap.size ∧ ∀ i, i < W.heap.size → i ≠ g → w1.heap[i]? = W.heap[i]? by
    obtain ⟨g1, c1, w1, hr, h0, h1, h2, h3, h4⟩ := hrun
    unfold Oper.wp
    simp [execOp, ho, resolve, invoke, builtin, hs, hx, hr, Result.andThen]
    have := hK' _ _ (h g1 c1 w1 h0 h1 h2 h3 h4)
    rw [List.length_append] at this
    exact this
  rw [List.length_append]
  by_cases hroom : xs.length + ys.length ≤ c
  · have hsome : ∀ j, j < (ys.map (Value.int .u8)).length → (W.cell? ⟨g, 0 + xs.length * i.size + j, none⟩).isSome = true := fun j hj => by
      rw [hsz, Nat.zero_add, Nat.mul_one]; exact (HY.there _ (by omega)).1
    have hrun := run_append_room_src (P := P) W t tx o.type e i ht hi g 0 xs.length c xv ys.length (ys.map (Value.int .u8)) (by rw [hsz]; exact hsrc) hroom hsome (fun j hj => by rw [hsz, Nat.zero_add, Nat.mul_one]; exact (HY.there _ (by omega)).2)
    rw [hsz, Nat.zero_add, Nat.mul_one] at hrun hsome
    have hfar : ∀ k, k < W.heap.size → k ≠ g → (W.setCells g xs.length (ys.map (Value.int .u8))).heap[k]? = W.heap[k]? := fun k hk hne => World.heap_setCells_other W g _ _ hk hne
    have hbel : Below W.heap.size W (W.setCells W.heap.size 0 []) := Below.refl _ _
    have hss : W.heap.size ≤ (W.setCells g xs.length (ys.map (Value.int .u8))).heap.size := by
      have h9 := HY.lt
      have : ∀ (vs : List Value) (o : Nat) (U : World), (U.setCells g o vs).heap.size = U.heap.size := by
        intro vs
        induction vs with
        | nil => intro o U; rfl
        | cons u vs ih => intro o U; exact (ih (o + 1) (U.setCell ⟨g, o, none⟩ u)).trans (by show (U.heap.modify g _).size = _; rw [Array.size_modify])
      rw [this]; exact Nat.le_refl _
    refine ⟨g, c, _, hrun, .inl rfl, ⟨HY.base, trivial, obj_setCells _ _ _ HY.obj, by rw [List.length_append]; exact hroom, HY.max, fun j u hu => ?_, fun j hj => ⟨World.isSome_setCells g _ _ _ _ (HY.there j hj).1, (World.frozen?_setCells g _ _ _ _).trans (HY.there j hj).2⟩⟩, ?_, hss, hfar⟩
    · rw [List.map_append] at hu
      by_cases hj : j < xs.length
      · rw [List.getElem?_append_left (by rw [List.length_map]; exact hj)] at hu
        rw [World.cell?_setCells_out g _ _ _ _ (fun _ _ => Or.inl hj)]
        exact HY.cells j u hu
      · rw [List.getElem?_append_right (by rw [List.length_map]; omega), List.length_map] at hu
        obtain ⟨hj2, hu2⟩ := List.getElem?_eq_some_iff.1 hu
        have := World.cell?_setCells_in g (ys.map (Value.int .u8)) xs.length W hsome (j - xs.length) hj2
        rw [show xs.length + (j - xs.length) = j by omega, hu2] at this
        exact this
    · refine ⟨(World.os_setCells W g _ _).trans HB.os, ?_, (World.output_setCells W g _ _).trans HB.output, Nat.le_trans HB.size hss, fun k hk => (hfar k (Nat.lt_of_lt_of_le hk hbase) (by have := HY.base; omega)).trans (HB.block k hk)⟩
      have : ∀ (vs : List Value) (o : Nat) (U : World), (U.setCells g o vs).tape = U.tape := by
        intro vs
        induction vs with
        | nil => intro o U; rfl
        | cons u vs ih => intro o U; exact (ih (o + 1) (U.setCell ⟨g, o, none⟩ u)).trans rfl
      rw [this]; exact HB.tape
  · have hold := run_firstCells_some (P := P) W.drew i.size xs.length ⟨g, 0, none⟩ xs.length c (xs.map (Value.int .u8)) (by rw [hsz, Nat.mul_one, List.length_map]) (fun j u hu => by rw [Addr.add_lit, Nat.zero_add]; exact (World.cell?_of_block (a := ⟨g, j, none⟩) rfl).trans (HY.cells j u hu))
    have hrun := run_append_grow_src (P := P) W t tx o.type e i (.int .u8 0) ht hi hz (some ⟨g, 0, none⟩) xs.length c (xs.map (Value.int .u8)) hold xv ys.length (ys.map (Value.int .u8)) (by rw [hsz]; exact hsrc) (by omega) (by omega) (growslice_fits (by omega) (by rw [hby]; omega))
    have hge := grownCap_ge W (xs.length + ys.length) c e
    have hcm := grownCap_le_maxLen W (xs.length + ys.length) c e (by simp only [maxLen]; omega)
    have hblk : ∀ (cells : Array Value) k, k < W.heap.size → (W.drew.alloc (.cells cells e)).heap[k]? = W.heap[k]? := fun cells k hk => Below.heap_alloc W.drew _ k hk
    refine ⟨_, _, _, hrun, .inr (Nat.le_refl _), ⟨hbase, trivial, ⟨_, _, heap_alloc_new W.drew _⟩, by rw [List.length_append]; exact hge, hcm, fun j u hu => ?_, fun j hj => ⟨?_, ?_⟩⟩, ?_, by simp, fun k hk _ => hblk _ k hk⟩
    · have e1 := World.cell?_alloc_new W.drew ((xs.map (Value.int .u8) ++ ys.map (Value.int .u8)).toArray ++ Builtin.zeroCells (Value.int .u8 0).cells (grownCap W (xs.length + ys.length) c e - (xs.length + ys.length))) e j
      have hj := (List.getElem?_eq_some_iff.1 hu).1
      rw [List.map_append] at hu hj
      refine Eq.trans e1 ?_
      rw [Array.getElem?_append_left (by simpa using hj), List.getElem?_toArray]
      exact hu
    · have e1 := World.cell?_alloc_new W.drew ((xs.map (Value.int .u8) ++ ys.map (Value.int .u8)).toArray ++ Builtin.zeroCells (Value.int .u8 0).cells (grownCap W (xs.length + ys.length) c e - (xs.length + ys.length))) e j
      refine (congrArg Option.isSome e1).trans ?_
      rw [Array.getElem?_eq_getElem (by
        simp only [Array.size_append, List.size_toArray, List.length_append, List.length_map, size_zeroCells]
        have : (Value.int IntKind.u8 0).cells.size = 1 := rfl
        rw [this]; omega)]
      rfl
    · exact World.frozen?_alloc_new W.drew _ _ j
    · exact ⟨HB.os, HB.tape, HB.output, Nat.le_trans HB.size (by simp), fun k hk => (hblk _ k (Nat.lt_of_lt_of_le hk hbase)).trans (HB.block k hk)⟩
theorem Yat.put {e base g c : Nat} {W : World} {ok : Nat → Prop} {xs : List Int} (h : Yat e W base ok g c xs) (j : Nat) (hj : j < xs.length) (y : Int) : Yat e (W.setCell ⟨g, j, none⟩ (.int .u8 y)) base ok g c (xs.set j y) := by
  show Yat e (W.setCells g j [.int .u8 y]) base ok g c (xs.set j y)
  have hs : ∀ i, i < ([Value.int .u8 y] : List Value).length → (W.cell? ⟨g, j + i, none⟩).isSome = true := fun i hi => by
    simp at hi; subst hi
    exact (h.there j (Nat.lt_of_lt_of_le hj h.le)).1
  refine ⟨h.base, h.ok, obj_setCells _ _ _ h.obj, by rw [List.length_set]; exact h.le, h.max, fun i u hu => ?_, fun i hi => ⟨World.isSome_setCells g _ _ _ _ (h.there i hi).1, (World.frozen?_setCells g _ _ _ _).trans (h.there i hi).2⟩⟩
  by_cases hij : i = j
  · subst hij
    have h2 := World.cell?_setCells_in g [Value.int .u8 y] i W hs 0 (by simp)
    rw [Nat.add_zero] at h2
    rw [List.getElem?_map, List.getElem?_set_self hj] at hu
    exact h2.trans (by simpa using hu)
  · rw [List.getElem?_map, List.getElem?_set_ne (fun e => hij e.symm), ← List.getElem?_map] at hu
    rw [World.cell?_setCells_out g _ _ _ _ (fun _ _ => by show i < j ∨ j + 1 ≤ i; omega)]
    exact h.cells i u hu
structure Kb (e : Nat) (wb W : World) (g c : Nat) (xs : List Int) (gt : Nat) (ct : Array Value) (tt : Nat) : Prop where
  Y : Yat e W wb.heap.size (fun _ => True) g c xs
  B : Below wb.heap.size wb W
  K : W.heap[gt]? = some (.cells ct tt (0, 0))
  ne : gt ≠ g
theorem Kb.src {wb W W0 : World} {e g c gt tt : Nat} {ct : Array Value} {xs ys : List Int} (hgd : o.guard = none) (s x : Operand) (t tx : TypeId)
    (ho : o.op = .call { callee := .builtin .append, args := #[s, x], argTypes := #[t, tx] })
    (ht : P.underlying t = some (.slice e)) (hinfo : (P.info? e).map (fun i => (i.zero, i.size, i.bytes)) = some (some (.int .u8 0), 1, 1))
    (hs : a.eval s = .slice (some ⟨g, 0, none⟩) xs.length c) (xv : Value) (hx : a.eval x = xv) (hsrc : Src P 1 tx xv ys.length (ys.map (Value.int .u8)) W0)
    (HK : Kb e wb W g c xs gt ct tt) (hW : Below W.heap.size W W0) (hl : xs.length + ys.length ≤ 1099511627776)
    (h : ∀ g1 c1 xs1 w1, xs1 = xs ++ ys → Kb e wb w1 g1 c1 xs1 gt ct tt → (∀ i, i < W.heap.size → i ≠ g → w1.heap[i]? = W.heap[i]?) → wpList P ops Q rest (a.put o.dst (.slice (some ⟨g1, 0, none⟩) xs1.length c1)) w1) : wpList P ops Q (o :: rest) a W0 := by
  have hlt := blk_lt HK.K
  refine Yat.append (w0 := wb) hgd s x t tx ho ht hinfo hs xv hx hsrc (HK.Y.carry (hW.block g HK.Y.lt)) (below_step HK.B hW) (Nat.le_trans HK.B.size hW.size) hl ?_
  intro g1 c1 w1 hg hY hB hz hfar
  refine h g1 c1 _ w1 rfl ⟨hY, hB, (hfar gt (Nat.lt_of_lt_of_le hlt hW.size) HK.ne).trans ((hW.block gt hlt).trans HK.K), ?_⟩ (fun i hi hn => (hfar i (Nat.lt_of_lt_of_le hi hW.size) hn).trans (hW.block i hi))
  rcases hg with rfl | hg
  · exact HK.ne
  · have := hW.size; omega
theorem Kb.one {wb W : World} {e g c gt tt : Nat} {ct : Array Value} {xs : List Int} (hgd : o.guard = none) (s x : Operand) (t : TypeId)
    (ho : o.op = .call { callee := .builtin .append, args := #[s, x], argTypes := #[t, t] })
    (ht : P.underlying t = some (.slice e)) (hinfo : (P.info? e).map (fun i => (i.zero, i.size, i.bytes)) = some (some (.int .u8 0), 1, 1))
    (hs : a.eval s = .slice (some ⟨g, 0, none⟩) xs.length c) (hx : a.eval x = .slice (some ⟨W.heap.size, 0, none⟩) 1 1) (y : Int)
    (HK : Kb e wb W g c xs gt ct tt) (hl : xs.length + 1 ≤ 1099511627776)
    (h : ∀ g1 c1 xs1 w1, xs1 = xs ++ [y] → Kb e wb w1 g1 c1 xs1 gt ct tt → (∀ i, i < W.heap.size → i ≠ g → w1.heap[i]? = W.heap[i]?) → wpList P ops Q rest (a.put o.dst (.slice (some ⟨g1, 0, none⟩) xs1.length c1)) w1) : wpList P ops Q (o :: rest) a (W.alloc (.cells #[.int .u8 y] e)) := by
  refine Kb.src (ys := [y]) hgd s x t t ho ht hinfo hs _ hx (Src.ofSlice _ ht ⟨W.heap.size, 0, none⟩ 1 1 _ rfl (fun j u hu => ?_) (fun u hu => ?_)) HK (below_alloc (Below.refl _ _) _) hl h
  · rw [Addr.add_lit, Nat.zero_add]
    exact (World.cell?_alloc_new W _ e j).trans (by simpa using hu)
  · simp at hu; subst hu; rfl
theorem Kb.row {wb W : World} {e g c gt tt m cc : Nat} {A : Option Addr} {ct : Array Value} {xs ys : List Int} (hgd : o.guard = none) (s x : Operand) (t : TypeId)
    (ho : o.op = .call { callee := .builtin .append, args := #[s, x], argTypes := #[t, t] })
    (ht : P.underlying t = some (.slice e)) (hinfo : (P.info? e).map (fun i => (i.zero, i.size, i.bytes)) = some (some (.int .u8 0), 1, 1))
    (hs : a.eval s = .slice (some ⟨g, 0, none⟩) xs.length c) (hx : a.eval x = .slice A m cc) (HC : (Kd.int .u8).C W A m ys)
    (HK : Kb e wb W g c xs gt ct tt) (hl : xs.length + ys.length ≤ 1099511627776)
    (h : ∀ g1 c1 xs1 w1, xs1 = xs ++ ys → Kb e wb w1 g1 c1 xs1 gt ct tt → (∀ i, i < W.heap.size → i ≠ g → w1.heap[i]? = W.heap[i]?) → wpList P ops Q rest (a.put o.dst (.slice (some ⟨g1, 0, none⟩) xs1.length c1)) w1) : wpList P ops Q (o :: rest) a W := by
  have hR := Kd.reads_of_C (enc := Value.int .u8) (d := 0) (h1 := fun _ => rfl) HC
  have hlen := hR.1
  subst hlen
  refine Kb.src (ys := ys) hgd s x t t ho ht hinfo hs _ hx ?_ HK (Below.refl _ _) hl h
  cases ys with
  | nil => 
    cases A with
    | none => exact Src.ofNil _ ht cc
    | some ad => exact Src.ofSlice _ ht ad 0 cc _ rfl (fun j u hu => by simp at hu) (fun u hu => by simp at hu)
  | cons y t2 =>
    obtain ⟨ad, rfl, hc⟩ := hR.2.2 (by simp)
    refine Src.ofSlice _ ht ad _ cc _ (by simp) (fun j u hu => ?_) (fun u hu => ?_)
    · obtain ⟨hj, hu2⟩ := List.getElem?_eq_some_iff.1 hu
      rw [List.length_map] at hj
      rw [hc j hj, ← hu2, List.getElem_map, List.getD_eq_getElem?_getD, List.getElem?_eq_getElem hj]
      rfl
    · obtain ⟨_, _, rfl⟩ := List.mem_map.1 hu
      rfl
theorem Kb.drew {wb W : World} {e g c gt tt : Nat} {ct : Array Value} {xs : List Int} (HK : Kb e wb W g c xs gt ct tt) : Kb e wb W.drew g c xs gt ct tt := ⟨HK.Y.carry rfl, below_drew1 HK.B, HK.K, HK.ne⟩
theorem Kb.drewN {wb W : World} {e g c gt tt : Nat} {ct : Array Value} {xs : List Int} (HK : Kb e wb W g c xs gt ct tt) (n : Nat) : Kb e wb (W.drewN n) g c xs gt ct tt := ⟨HK.Y.carry rfl, pw_below_drewN HK.B n, blk_drewN HK.K n, HK.ne⟩
theorem Kb.at_ {wb W : World} {e g c gt gt2 tt tt2 : Nat} {ct ct2 : Array Value} {xs : List Int} (HK : Kb e wb W g c xs gt ct tt) (hK : W.heap[gt2]? = some (.cells ct2 tt2 (0, 0))) (hne : gt2 ≠ g) : Kb e wb W g c xs gt2 ct2 tt2 := ⟨HK.Y, HK.B, hK, hne⟩
theorem Kb.step {wb W V : World} {e g c gt tt : Nat} {ct : Array Value} {xs : List Int} (HK : Kb e wb W g c xs gt ct tt) (hb : Below W.heap.size W V) : Kb e wb V g c xs gt ct tt := ⟨HK.Y.carry (hb.block g HK.Y.lt), below_step HK.B hb, blk_below HK.K hb, HK.ne⟩
theorem Kb.on {wb W V : World} {e g c gt tt : Nat} {ct ct2 : Array Value} {xs : List Int} (HK : Kb e wb W g c xs gt ct tt) (h : On gt W V) (hg : wb.heap.size ≤ gt) (hK : V.heap[gt]? = some (.cells ct2 tt (0, 0))) : Kb e wb V g c xs gt ct2 tt := ⟨HK.Y.carry (h.far g HK.ne.symm), h.below HK.B hg, hK, HK.ne⟩
end
section
variable {P : Program} {ops : Array Oper} {rest : List Oper} {o : Oper} {a : Act} {Q : Exit → Act → World → Prop}
theorem str_at {W : World} (base : Nat) (t u ty e : TypeId) (i : TypeInfo) (ht : P.underlying t = some (.slice e)) (hu : P.underlying u = some .string) (hi : P.info? e = some i) (hz : i.zero = some (.int .u8 0))
    (hsize : i.size = 1) (hby : i.bytes = 1) (v : Value) (n : Nat) (xs : List Value) (hown : W.ownsRow base e 1 v n xs) (s : ByteArray) (hl : n + s.size ≤ 140737488355328) (hbase : base ≤ W.heap.size) :
    ∃ v' w', (Builtin.append_ #[t, u] ty #[v, .string s]).run P W = .ok v' w' ∧ w'.ownsRow base e 1 v' (n + s.size) (xs ++ Lib.strCells s) ∧ W.grownBy w' v.ownBlock ∧ (v'.ownBlock = v.ownBlock ∨ v'.ownBlock = some W.heap.size) := by
  obtain ⟨v', w', hr, h2, h3, h4⟩ := Lib.run_append_own_string (P := P) W base t u ty e i ht hu hi hz hsize hby v n xs hown s (by simp only [maxLen]; omega) hl hbase
  refine ⟨v', w', hr, h2, h3, ?_⟩
  have hxl : xs.length = n := by simpa using hown.1
  have src : Src P i.size u (.string s) s.size (byteCells s) W := by rw [hsize]; exact Src.ofString W hu s
  rcases hown.2 with ⟨rfl, hn⟩ | ⟨g, cap, cur, rfl, hg, hb, hnc, hcm, hcs, htake⟩
  · by_cases h0 : s.size = 0
    · left; rw [h4.2 ⟨rfl, h0⟩]
    · right
      have hn0 : n = 0 := by omega
      subst hn0
      have := run_append_grow_src (P := P) W t u ty e i (.int .u8 0) ht hi hz none 0 0 [] (run_firstCells_none W.drew i.size 0 0 0) (.string s) s.size (byteCells s) src (by omega) (by omega) (growslice_fits (by omega) (by rw [hby]; omega))
      rw [hr] at this
      injection this with this _
      rw [this]
      rfl
  · by_cases hroom : n + s.size ≤ cap
    · left
      have := run_append_room_src (P := P) W t u ty e i ht hi g 0 n cap (.string s) s.size (byteCells s) src hroom (fun j hj => by
        rw [hsize, Nat.zero_add, Nat.mul_one]
        rw [byteCells_length] at hj
        have : (W.cell? ⟨g, n + j, none⟩) = cur[n + j]? := by simp [World.cell?, hb]
        rw [this, Array.getElem?_eq_getElem (by omega)]
        rfl) (fun j hj => by simp [World.frozen?, hb])
      rw [hr] at this
      injection this with this _
      rw [this]
      rfl
    · right
      have hold := run_firstCells_some (P := P) W.drew i.size n ⟨g, 0, none⟩ n cap xs (by rw [hsize, hxl, Nat.mul_one]) (fun j x hx => by
        rw [Addr.add_lit, Nat.zero_add]
        have hj := (List.getElem?_eq_some_iff.1 hx).1
        have hc : (W.drew.cell? ⟨g, j, none⟩) = cur[j]? := by
          show W.cell? _ = _
          simp [World.cell?, hb]
        rw [hc]
        have h5 := congrArg (fun l => l[j]?) htake
        simp only [List.getElem?_take] at h5
        rw [if_pos (by omega)] at h5
        rw [← hx, ← h5]
        simp)
      have := run_append_grow_src (P := P) W t u ty e i (.int .u8 0) ht hi hz (some ⟨g, 0, none⟩) n cap xs hold (.string s) s.size (byteCells s) src (by omega) (by omega) (growslice_fits (by omega) (by rw [hby]; omega))
      rw [hr] at this
      injection this with this _
      rw [this]
      rfl
theorem Kd.R_append_str {w0 W : World} (base : Nat) (hgd : o.guard = none) (s x : Operand) (t u e : TypeId)
    (ho : o.op = .call { callee := .builtin .append, args := #[s, x], argTypes := #[t, u] })
    (ht : P.underlying t = some (.slice e)) (hu : P.underlying u = some .string) (hinfo : (P.info? e).map (fun i => (i.zero, i.size, i.bytes)) = some (some (.int .u8 0), 1, 1))
    (v : Value) (xs : List Int) (y : ByteArray) (ok : Nat → Prop) (hs : a.eval s = v) (hx : a.eval x = .string y) (hfresh : ∀ k, W.heap.size ≤ k → ok k)
    (HO : (Kd.int .u8).R e W base ok v xs) (HB : Below base w0 W) (hbase : base ≤ W.heap.size) (hl : xs.length + y.size ≤ 140737488355328)
    (h : ∀ v1 w1, (Kd.int .u8).R e w1 base ok v1 (xs ++ bytesOf y) → Below base w0 w1 → W.grownBy w1 v.ownBlock → (v1.ownBlock = v.ownBlock ∨ ∃ b, v1.ownBlock = some b ∧ W.heap.size ≤ b) → wpList P ops Q rest (a.put o.dst v1) w1) :
    wpList P ops Q (o :: rest) a W := by
  obtain ⟨i0, hi, hz0, hz1, hz2⟩ := info_parts hinfo
  have hown := Kd.own_of_R (enc := Value.int .u8) (h1 := fun _ => rfl) HO
  obtain ⟨v1, w1, hr, h2, hg, hat⟩ := str_at (P := P) base t u o.type e i0 ht hu hi hz0 hz1 hz2 v xs.length _ hown y hl hbase
  have hat' : v1.ownBlock = v.ownBlock ∨ ∃ b, v1.ownBlock = some b ∧ W.heap.size ≤ b := by
    rcases hat with hat | hat
    · exact .inl hat
    · exact .inr ⟨_, hat, Nat.le_refl _⟩
  have hc : encs (Value.int .u8) xs ++ Lib.strCells y = encs (Value.int .u8) (xs ++ bytesOf y) := by
    rw [encs_append]
    congr 1
    simp [encs, bytesOf, Lib.strCells]
  refine wpList_plain hgd fun K hK => ?_
  unfold Oper.wp execOp
  simp only [ho, resolve, invoke, builtin, Sem.run_bind, Sem.run_pure, Result.andThen_ok, List.map_toArray, List.map_cons, List.map_nil, hs, hx, hr]
  refine hK _ _ (h v1 w1 (Kd.R_of_own (h1 := fun _ => rfl) ?_ (fun k hk => ?_)) (HB.grown hg hbase (own_base hown)) hg hat')
  · rw [List.length_append, bytesOf_length, ← hc]; exact h2
  · rcases hat' with hat | ⟨b, hb, hle⟩
    · exact HO.1 k (hat ▸ hk)
    · rw [hb] at hk
      injection hk with hk
      exact hfresh k (by omega)
end
theorem cell_drewN_of {X : World} {p : Addr} {u : Value} (n : Nat) (h : X.cell? p = some u) : (X.drewN n).cell? p = some u := h
theorem drewN_setCell (X : World) (p : Addr) (u : Value) (n : Nat) : (X.setCell p u).drewN n = (X.drewN n).setCell p u := rfl
abbrev Q9 (W : World) (g : Nat) (a0 a1 a2 a3 a4 a5 a6 a7 a8 : Value) (q : Prop) : Prop := W.cell? ⟨g, 0, none⟩ = some a0 ∧ W.cell? ⟨g, 1, none⟩ = some a1 ∧ W.cell? ⟨g, 2, none⟩ = some a2 ∧ W.cell? ⟨g, 3, none⟩ = some a3 ∧ W.cell? ⟨g, 4, none⟩ = some a4 ∧ W.cell? ⟨g, 5, none⟩ = some a5 ∧ W.cell? ⟨g, 6, none⟩ = some a6 ∧ W.cell? ⟨g, 7, none⟩ = some a7 ∧ W.cell? ⟨g, 8, none⟩ = some a8 ∧ q
theorem c9 {W : World} {g : Nat} {t : TypeId} {a0 a1 a2 a3 a4 a5 a6 a7 a8 : Value} (h : W.heap[g]? = some (.cells #[a0, a1, a2, a3, a4, a5, a6, a7, a8] t (0, 0))) : W.cell? ⟨g, 0, none⟩ = some a0 ∧ W.cell? ⟨g, 1, none⟩ = some a1 ∧ W.cell? ⟨g, 2, none⟩ = some a2 ∧ W.cell? ⟨g, 3, none⟩ = some a3 ∧ W.cell? ⟨g, 4, none⟩ = some a4 ∧ W.cell? ⟨g, 5, none⟩ = some a5 ∧ W.cell? ⟨g, 6, none⟩ = some a6 ∧ W.cell? ⟨g, 7, none⟩ = some a7 ∧ W.cell? ⟨g, 8, none⟩ = some a8 := ⟨(blk_cell h 0).trans rfl, (blk_cell h 1).trans rfl, (blk_cell h 2).trans rfl, (blk_cell h 3).trans rfl, (blk_cell h 4).trans rfl, (blk_cell h 5).trans rfl, (blk_cell h 6).trans rfl, (blk_cell h 7).trans rfl, (blk_cell h 8).trans rfl⟩
theorem kc9 {W : World} {g : Nat} {t : TypeId} {a0 a1 a2 a3 a4 a5 a6 a7 a8 : Value} (h : W.heap[g]? = some (.cells #[a0, a1, a2, a3, a4, a5, a6, a7, a8] t (0, 0))) : W.cell? ⟨g, 0, none⟩ = some a0 ∧ W.cell? ⟨g, 1, none⟩ = some a1 ∧ W.cell? ⟨g, 2, none⟩ = some a2 ∧ W.cell? ⟨g, 3, none⟩ = some a3 ∧ W.cell? ⟨g, 4, none⟩ = some a4 ∧ W.cell? ⟨g, 5, none⟩ = some a5 ∧ W.cell? ⟨g, 6, none⟩ = some a6 ∧ W.cell? ⟨g, 7, none⟩ = some a7 ∧ W.cell? ⟨g, 8, none⟩ = some a8 := c9 h
theorem q9 {W : World} {g : Nat} {t : TypeId} {a0 a1 a2 a3 a4 a5 a6 a7 a8 : Value} {q : Prop} (h : W.heap[g]? = some (.cells #[a0, a1, a2, a3, a4, a5, a6, a7, a8] t (0, 0))) (hq : q) : Q9 W g a0 a1 a2 a3 a4 a5 a6 a7 a8 q := ⟨(blk_cell h 0).trans rfl, (blk_cell h 1).trans rfl, (blk_cell h 2).trans rfl, (blk_cell h 3).trans rfl, (blk_cell h 4).trans rfl, (blk_cell h 5).trans rfl, (blk_cell h 6).trans rfl, (blk_cell h 7).trans rfl, (blk_cell h 8).trans rfl, hq⟩
theorem f9 {W : World} {g : Nat} {t : TypeId} {cs : Array Value} (h : W.heap[g]? = some (.cells cs t (0, 0))) : W.frozen? ⟨g, 0, none⟩ = false ∧ W.frozen? ⟨g, 1, none⟩ = false ∧ W.frozen? ⟨g, 2, none⟩ = false ∧ W.frozen? ⟨g, 3, none⟩ = false ∧ W.frozen? ⟨g, 4, none⟩ = false ∧ W.frozen? ⟨g, 5, none⟩ = false ∧ W.frozen? ⟨g, 6, none⟩ = false ∧ W.frozen? ⟨g, 7, none⟩ = false ∧ W.frozen? ⟨g, 8, none⟩ = false := ⟨blk_frozen h 0, blk_frozen h 1, blk_frozen h 2, blk_frozen h 3, blk_frozen h 4, blk_frozen h 5, blk_frozen h 6, blk_frozen h 7, blk_frozen h 8⟩
theorem kf9 {W : World} {g : Nat} {t : TypeId} {cs : Array Value} (h : W.heap[g]? = some (.cells cs t (0, 0))) : W.frozen? ⟨g, 0, none⟩ = false ∧ W.frozen? ⟨g, 1, none⟩ = false ∧ W.frozen? ⟨g, 2, none⟩ = false ∧ W.frozen? ⟨g, 3, none⟩ = false ∧ W.frozen? ⟨g, 4, none⟩ = false ∧ W.frozen? ⟨g, 5, none⟩ = false ∧ W.frozen? ⟨g, 6, none⟩ = false ∧ W.frozen? ⟨g, 7, none⟩ = false ∧ W.frozen? ⟨g, 8, none⟩ = false := f9 h
theorem p39 {W : World} {g : Nat} {t : TypeId} {a0 a1 a2 a3 a4 a5 a6 a7 a8 x0 x1 x2 : Value} (h : W.heap[g]? = some (.cells #[a0, a1, a2, a3, a4, a5, a6, a7, a8] t (0, 0))) : (((W.setCell ⟨g, 0, none⟩ x0).setCell ⟨g, 1, none⟩ x1).setCell ⟨g, 2, none⟩ x2).heap[g]? = some (.cells #[x0, x1, x2, a3, a4, a5, a6, a7, a8] t (0, 0)) := blk_put (blk_put (blk_put h 0 x0 rfl) 1 x1 rfl) 2 x2 rfl
theorem p9 {W : World} {g : Nat} {t : TypeId} {a0 a1 a2 a3 a4 a5 a6 a7 a8 x0 x1 x2 x3 x4 x5 x6 x7 x8 : Value} (h : W.heap[g]? = some (.cells #[a0, a1, a2, a3, a4, a5, a6, a7, a8] t (0, 0))) : (((((((((W.setCell ⟨g, 0, none⟩ x0).setCell ⟨g, 1, none⟩ x1).setCell ⟨g, 2, none⟩ x2).setCell ⟨g, 3, none⟩ x3).setCell ⟨g, 4, none⟩ x4).setCell ⟨g, 5, none⟩ x5).setCell ⟨g, 6, none⟩ x6).setCell ⟨g, 7, none⟩ x7).setCell ⟨g, 8, none⟩ x8).heap[g]? = some (.cells #[x0, x1, x2, x3, x4, x5, x6, x7, x8] t (0, 0)) := by
  show (setAll W g 0 [x0, x1, x2, x3, x4, x5, x6, x7, x8]).heap[g]? = _
  exact setAll_blk _ h rfl
end Go.Proofs.YtllmlnagihlokaaW.PrintWords

