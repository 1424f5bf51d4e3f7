/- Words of this session beside the print's: bytes in a block that a conversion from a text has made (the model marks such a block; none of its cells is frozen). -/
import Derived.Test.YtodblpadklheaaaDoorHx
import Derived.Deep.Upon
import Derived.Lib.ConvBytes
set_option linter.unusedVariables false
namespace Go.Proofs.YtodblpadklheaaaDoorW.PrintWords
open Go.RowKit
/-- the bytes xs at the head of block g, of capacity c -/
structure Yat (e : Nat) (W : World) (base : Nat) (ok : Nat → Prop) (g c : Nat) (xs : List Int) : Prop where
  base : base ≤ g
  ok : ok g
  obj : ∃ cur fz, W.heap[g]? = some (.cells cur e fz)
  le : xs.length ≤ c
  max : c ≤ maxLen
  cells : ∀ j u, (xs.map (Value.int .u8))[j]? = some u → W.cell? ⟨g, j, none⟩ = some u
  there : ∀ j, j < c → (W.cell? ⟨g, j, none⟩).isSome = true ∧ W.frozen? ⟨g, j, none⟩ = false
theorem Yat.lt {e base g c : Nat} {W : World} {ok : Nat → Prop} {xs : List Int} (h : Yat e W base ok g c xs) : g < W.heap.size := by
  obtain ⟨cur, fz, hb⟩ := h.obj
  exact (Array.getElem?_eq_some_iff.1 hb).1
theorem Yat.carry {e base g c : Nat} {W V : World} {ok : Nat → Prop} {xs : List Int} (h : Yat e W base ok g c xs) (hb : V.heap[g]? = W.heap[g]?) : Yat e V base ok g c xs :=
  ⟨h.base, h.ok, by rw [hb]; exact h.obj, h.le, h.max, fun j u hu => (World.cell?_of_block (a := ⟨g, j, none⟩) hb).trans (h.cells j u hu), fun j hj => ⟨by rw [World.cell?_of_block (a := ⟨g, j, none⟩) hb]; exact (h.there j hj).1, (World.frozen?_of_block (a := ⟨g, j, none⟩) hb).trans (h.there j hj).2⟩⟩
/-- a slice of bytes of one's own, or nil; its block may be one that a conversion has made -/
def Kd.Y (d : Kd Int) (e : Nat) (W : World) (base : Nat) (ok : Nat → Prop) (v : Value) (xs : List Int) : Prop := (v = .slice none 0 0 ∧ xs = []) ∨ ∃ g c, v = .slice (some ⟨g, 0, none⟩) xs.length c ∧ Yat e W base ok g c xs
section
variable {d : Kd Int} {e base g c : Nat} {W V : World} {ok ok' : Nat → Prop} {xs ys : List Int} {v : Value}
theorem Kd.Y_nil (d : Kd Int) (e : Nat) (W : World) (base : Nat) (ok : Nat → Prop) : Kd.Y d e W base ok (.slice none 0 0) [] := .inl ⟨rfl, rfl⟩
theorem Kd.Y_step (h : Kd.Y d e W base ok v xs) (hm : ∀ k, ok k → k < W.heap.size → V.heap[k]? = W.heap[k]?) : Kd.Y d e V base ok v xs := h.imp id (fun ⟨g, c, e1, hy⟩ => ⟨g, c, e1, hy.carry (hm g hy.ok hy.lt)⟩)
theorem Kd.Y_below (h : Kd.Y d e W base ok v xs) (hb : Below W.heap.size W V) : Kd.Y d e V base ok v xs := Kd.Y_step h (fun k _ hk => hb.block k hk)
theorem Kd.Y_alloc (h : Kd.Y d e W base ok v xs) (o : Obj) : Kd.Y d e (W.alloc o) base ok v xs := Kd.Y_below h (below_alloc (Below.refl _ _) o)
theorem Kd.Y_drew (h : Kd.Y d e W base ok v xs) : Kd.Y d e W.drew base ok v xs := Kd.Y_below h (below_drew1 (Below.refl _ _))
theorem Kd.Y_drewN (h : Kd.Y d e W base ok v xs) (m : Nat) : Kd.Y d e (W.drewN m) base ok v xs := Kd.Y_below h (pw_below_drewN (Below.refl _ _) m)
theorem Kd.Y_mono (h : Kd.Y d e W base ok v xs) (hk : ∀ k, ok k → ok' k) : Kd.Y d e W base ok' v xs := h.imp id (fun ⟨g, c, e1, hy⟩ => ⟨g, c, e1, hy.base, hk g hy.ok, hy.obj, hy.le, hy.max, hy.cells, hy.there⟩)
theorem Kd.Y_lower {base' : Nat} (h : Kd.Y d e W base ok v xs) (hb : base' ≤ base) : Kd.Y d e W base' ok v xs := h.imp id (fun ⟨g, c, e1, hy⟩ => ⟨g, c, e1, Nat.le_trans hb hy.base, hy.ok, hy.obj, hy.le, hy.max, hy.cells, hy.there⟩)
theorem Kd.Y_slice (h : Kd.Y d e W base ok v xs) : ∃ A c, v = .slice A xs.length c := by
  rcases h with ⟨rfl, rfl⟩ | ⟨g, c, rfl, _⟩
  · exact ⟨none, 0, rfl⟩
  · exact ⟨_, _, rfl⟩
theorem Kd.Y_reads' {A : Option Addr} {n c : Nat} (h : Kd.Y (Kd.int .u8) e W base ok (.slice A n c) xs) : n = xs.length ∧ n ≤ c ∧ (Kd.int .u8).C W A xs.length xs := by
  rcases h with ⟨he, rfl⟩ | ⟨g, c', he, hy⟩
  · injection he with h1 h2 h3
    subst h1
    exact ⟨h2, by omega, Kd.C_nil _ _⟩
  · injection he with h1 h2 h3
    subst h1
    refine ⟨h2, by rw [h2, h3]; exact hy.le, ?_⟩
    refine C_of_reads (enc := Value.int .u8) (d := 0) (h1 := fun _ => rfl) ⟨rfl, by have := hy.le; have := hy.max; simp only [maxLen] at this; omega, fun h0 => ⟨⟨g, 0, none⟩, rfl, fun j hj => ?_⟩⟩
    rw [Addr.add_lit, Nat.zero_add]
    exact hy.cells j _ (by rw [List.getElem?_map, List.getElem?_eq_getElem hj, List.getD_eq_getElem?_getD, List.getElem?_eq_getElem hj]; rfl)
theorem Kd.Y_kept {S : Nat → Prop} {W2 : World} (h : Kd.Y d e W base ok v xs) (hk : Kept W W2 S) (hne : ∀ k, ok k → ¬ S k) : Kd.Y d e W2 base ok v xs := Kd.Y_step h (fun k ho hlt => hk.2 k hlt (hne k ho))
theorem Kd.Y_bound (h : Kd.Y d e W base ok v xs) : Kd.Y d e W base (Mine base W (e :: d.E)) v xs := h.imp id (fun ⟨g, c, e1, hy⟩ => ⟨g, c, e1, hy.base, ⟨hy.base, hy.lt, e, List.mem_cons_self .., hy.obj⟩, hy.obj, hy.le, hy.max, hy.cells, hy.there⟩)
theorem mineY {b : Nat} (h : Kd.Y d e W b ok v xs) {a lo : Nat} (ha : b = a) (hl : lo ≤ b) : Kd.Y d e W lo (Mine a W (e :: d.E)) v xs := by
  subst ha; exact Kd.Y_lower (Kd.Y_bound h) hl
theorem On.Yt {t : Nat} {cs : Array Value} (h : On g W V) (ho : Kd.Y d e W base ok v xs) (hb : W.heap[g]? = some (.cells cs t (0, 0))) (ht : ∀ q, q ∈ e :: d.E → q ≠ t) : Kd.Y d e V base ok v xs :=
  ho.imp id (fun ⟨g', c, e1, hy⟩ => ⟨g', c, e1, hy.carry (h.far g' (fun e2 => by
    subst e2
    obtain ⟨cur, fz, hc⟩ := hy.obj
    rw [hb] at hc
    injection hc with hc
    injection hc with _ hc
    exact ht e (List.mem_cons_self ..) hc.symm))⟩)
end
theorem obj_setCells {e g : Nat} : ∀ (vs : List Value) (o : Nat) (W : World), (∃ cur fz, W.heap[g]? = some (.cells cur e fz)) → ∃ cur fz, (W.setCells g o vs).heap[g]? = some (.cells cur e fz)
  | [], _, _, h => h
  | u :: vs, o, W, ⟨cur, fz, h⟩ => by
    refine obj_setCells vs (o + 1) (W.setCell ⟨g, o, none⟩ u) ⟨cur.setIfInBounds o u, fz, ?_⟩
    show (W.heap.modify g _)[g]? = _
    rw [Array.getElem?_modify, if_pos rfl, h]
    rfl
/-- []byte(s): the block is the conversion's -/
theorem Yat.conv {e base : Nat} {W : World} (s : ByteArray) (hb : base ≤ W.heap.size) (hs : s.size ≤ maxLen) : Yat e (Lib.bytesWorld W e s) base (fun _ => True) W.heap.size (grownCap W s.size 0 e) (bytesOf s) := by
  have hge := grownCap_ge W s.size 0 e
  have hcs : (Lib.bytesCells W e s).size = grownCap W s.size 0 e := by
    have : s.data.size = s.size := rfl
    simp [Lib.bytesCells, this]; omega
  have hnew := Lib.bytesWorld_at_new W e s
  refine ⟨hb, trivial, ⟨_, _, hnew⟩, by rw [bytesOf_length]; exact hge, grownCap_le_maxLen W s.size 0 e hs, fun j u hu => ?_, fun j hj => ⟨?_, ?_⟩⟩
  · have hj : j < s.size := by
      have := (List.getElem?_eq_some_iff.1 hu).1
      rw [List.length_map, bytesOf_length] at this
      exact this
    rw [Lib.bytesWorld_cell W e s j hj]
    rw [← hu]
    simp [bytesOf]
    rw [Array.getElem?_eq_getElem (show j < s.data.size from hj)]
    rfl
  · have : (Lib.bytesWorld W e s).cell? ⟨W.heap.size, j, none⟩ = (Lib.bytesCells W e s)[j]? := by
      simp [World.cell?, hnew]
    rw [this, Array.getElem?_eq_getElem (by omega)]
    rfl
  · simp [World.frozen?, hnew]
    omega
theorem below_bytesWorld {e : Nat} {base : Nat} {w W : World} (s : ByteArray) (h : Below base w W) (hb : base ≤ W.heap.size) : Below base w (Lib.bytesWorld W e s) := by
  refine ⟨h.os, h.tape, h.output, by rw [Lib.bytesWorld_size]; have := h.size; omega, fun i hi => ?_⟩
  rw [Lib.bytesWorld_at_old W e s i (by omega)]
  exact h.block i hi
section
variable {P : Program} {ops : Array Oper} {rest : List Oper} {o : Oper} {a : Act} {Q : Exit → Act → World → Prop}
/-- append(v, x) or append(v, xs...) or append(v, s...), v's block a conversion's or one's own -/
theorem Yat.append {w0 W : World} {e base g c : Nat} {xs ys : List Int} (hgd : o.guard = none) (s x : Operand) (t tx : TypeId)
    (ho : o.op = .call { callee := .builtin .append, args := #[s, x], argTypes := #[t, tx] })
    (ht : P.underlying t = some (.slice e)) (hinfo : (P.info? e).map (fun i => (i.zero, i.size, i.bytes)) = some (some (.int .u8 0), 1, 1))
    (hs : a.eval s = .slice (some ⟨g, 0, none⟩) xs.length c) (xv : Value) (hx : a.eval x = xv) (hsrc : Src P 1 tx xv ys.length (ys.map (Value.int .u8)) W)
    (HY : Yat e W base (fun _ => True) g c xs) (HB : Below base w0 W) (hbase : base ≤ W.heap.size) (hl : xs.length + ys.length ≤ 1099511627776)
    (h : ∀ g1 c1 w1, (g1 = g ∨ W.heap.size ≤ g1) → Yat e w1 base (fun _ => True) g1 c1 (xs ++ ys) → Below base w0 w1 → W.heap.size ≤ w1.heap.size → (∀ i, i < W.heap.size → i ≠ g → w1.heap[i]? = W.heap[i]?) → wpList P ops Q rest (a.put o.dst (.slice (some ⟨g1, 0, none⟩) (xs ++ ys).length c1)) w1) : wpList P ops Q (o :: rest) a W := by
  obtain ⟨i, hi, hz, hsz, hby⟩ := info_parts hinfo
  refine wpList_plain hgd fun K hK' => ?_
  have hlen : (ys.map (Value.int .u8)).length = ys.length := List.length_map _
  suffices hrun : ∃ g1 c1 w1, (Builtin.append_ #[t, tx] o.type #[.slice (some ⟨g, 0, none⟩) xs.length c, xv]).run P W = .ok (.slice (some ⟨g1, 0, none⟩) (xs ++ ys).length c1) w1 ∧ (g1 = g ∨ W.heap.size ≤ g1) ∧ Yat e w1 base (fun _ => True) g1 c1 (xs ++ ys) ∧ Below base w0 w1 ∧ W.heap.size ≤ w1.heap.size ∧ ∀ i, i < W.heap.size → i ≠ g → w1.heap[i]? = W.heap[i]? by
    obtain ⟨g1, c1, w1, hr, h0, h1, h2, h3, h4⟩ := hrun
    unfold Oper.wp
    simp [execOp, ho, resolve, invoke, builtin, hs, hx, hr, Result.andThen]
    have := hK' _ _ (h g1 c1 w1 h0 h1 h2 h3 h4)
    rw [List.length_append] at this
    exact this
  rw [List.length_append]
  by_cases hroom : xs.length + ys.length ≤ c
  · have hsome : ∀ j, j < (ys.map (Value.int .u8)).length → (W.cell? ⟨g, 0 + xs.length * i.size + j, none⟩).isSome = true := fun j hj => by
      rw [hsz, Nat.zero_add, Nat.mul_one]; exact (HY.there _ (by omega)).1
    have hrun := run_append_room_src (P := P) W t tx o.type e i ht hi g 0 xs.length c xv ys.length (ys.map (Value.int .u8)) (by rw [hsz]; exact hsrc) hroom hsome (fun j hj => by rw [hsz, Nat.zero_add, Nat.mul_one]; exact (HY.there _ (by omega)).2)
    rw [hsz, Nat.zero_add, Nat.mul_one] at hrun hsome
    have hfar : ∀ k, k < W.heap.size → k ≠ g → (W.setCells g xs.length (ys.map (Value.int .u8))).heap[k]? = W.heap[k]? := fun k hk hne => World.heap_setCells_other W g _ _ hk hne
    have hbel : Below W.heap.size W (W.setCells W.heap.size 0 []) := Below.refl _ _
    have hss : W.heap.size ≤ (W.setCells g xs.length (ys.map (Value.int .u8))).heap.size := by
      have h9 := HY.lt
      have : ∀ (vs : List Value) (o : Nat) (U : World), (U.setCells g o vs).heap.size = U.heap.size := by
        intro vs
        induction vs with
        | nil => intro o U; rfl
        | cons u vs ih => intro o U; exact (ih (o + 1) (U.setCell ⟨g, o, none⟩ u)).trans (by show (U.heap.modify g _).size = _; rw [Array.size_modify])
      rw [this]; exact Nat.le_refl _
    refine ⟨g, c, _, hrun, .inl rfl, ⟨HY.base, trivial, obj_setCells _ _ _ HY.obj, by rw [List.length_append]; exact hroom, HY.max, fun j u hu => ?_, fun j hj => ⟨World.isSome_setCells g _ _ _ _ (HY.there j hj).1, (World.frozen?_setCells g _ _ _ _).trans (HY.there j hj).2⟩⟩, ?_, hss, hfar⟩
    · rw [List.map_append] at hu
      by_cases hj : j < xs.length
      · rw [List.getElem?_append_left (by rw [List.length_map]; exact hj)] at hu
        rw [World.cell?_setCells_out g _ _ _ _ (fun _ _ => Or.inl hj)]
        exact HY.cells j u hu
      · rw [List.getElem?_append_right (by rw [List.length_map]; omega), List.length_map] at hu
        obtain ⟨hj2, hu2⟩ := List.getElem?_eq_some_iff.1 hu
        have := World.cell?_setCells_in g (ys.map (Value.int .u8)) xs.length W hsome (j - xs.length) hj2
        rw [show xs.length + (j - xs.length) = j by omega, hu2] at this
        exact this
    · refine ⟨(World.os_setCells W g _ _).trans HB.os, ?_, (World.output_setCells W g _ _).trans HB.output, Nat.le_trans HB.size hss, fun k hk => (hfar k (Nat.lt_of_lt_of_le hk hbase) (by have := HY.base; omega)).trans (HB.block k hk)⟩
      have : ∀ (vs : List Value) (o : Nat) (U : World), (U.setCells g o vs).tape = U.tape := by
        intro vs
        induction vs with
        | nil => intro o U; rfl
        | cons u vs ih => intro o U; exact (ih (o + 1) (U.setCell ⟨g, o, none⟩ u)).trans rfl
      rw [this]; exact HB.tape
  · have hold := run_firstCells_some (P := P) W.drew i.size xs.length ⟨g, 0, none⟩ xs.length c (xs.map (Value.int .u8)) (by rw [hsz, Nat.mul_one, List.length_map]) (fun j u hu => by rw [Addr.add_lit, Nat.zero_add]; exact (World.cell?_of_block (a := ⟨g, j, none⟩) rfl).trans (HY.cells j u hu))
    have hrun := run_append_grow_src (P := P) W t tx o.type e i (.int .u8 0) ht hi hz (some ⟨g, 0, none⟩) xs.length c (xs.map (Value.int .u8)) hold xv ys.length (ys.map (Value.int .u8)) (by rw [hsz]; exact hsrc) (by omega) (by omega) (growslice_fits (by omega) (by rw [hby]; omega))
    have hge := grownCap_ge W (xs.length + ys.length) c e
    have hcm := grownCap_le_maxLen W (xs.length + ys.length) c e (by simp only [maxLen]; omega)
    have hblk : ∀ (cells : Array Value) k, k < W.heap.size → (W.drew.alloc (.cells cells e)).heap[k]? = W.heap[k]? := fun cells k hk => Below.heap_alloc W.drew _ k hk
    refine ⟨_, _, _, hrun, .inr (Nat.le_refl _), ⟨hbase, trivial, ⟨_, _, heap_alloc_new W.drew _⟩, by rw [List.length_append]; exact hge, hcm, fun j u hu => ?_, fun j hj => ⟨?_, ?_⟩⟩, ?_, by simp, fun k hk _ => hblk _ k hk⟩
    · have e1 := World.cell?_alloc_new W.drew ((xs.map (Value.int .u8) ++ ys.map (Value.int .u8)).toArray ++ Builtin.zeroCells (Value.int .u8 0).cells (grownCap W (xs.length + ys.length) c e - (xs.length + ys.length))) e j
      have hj := (List.getElem?_eq_some_iff.1 hu).1
      rw [List.map_append] at hu hj
      refine Eq.trans e1 ?_
      rw [Array.getElem?_append_left (by simpa using hj), List.getElem?_toArray]
      exact hu
    · have e1 := World.cell?_alloc_new W.drew ((xs.map (Value.int .u8) ++ ys.map (Value.int .u8)).toArray ++ Builtin.zeroCells (Value.int .u8 0).cells (grownCap W (xs.length + ys.length) c e - (xs.length + ys.length))) e j
      refine (congrArg Option.isSome e1).trans ?_
      rw [Array.getElem?_eq_getElem (by
        simp only [Array.size_append, List.size_toArray, List.length_append, List.length_map, size_zeroCells]
        have : (Value.int IntKind.u8 0).cells.size = 1 := rfl
        rw [this]; omega)]
      rfl
    · exact World.frozen?_alloc_new W.drew _ _ j
    · exact ⟨HB.os, HB.tape, HB.output, Nat.le_trans HB.size (by simp), fun k hk => (hblk _ k (Nat.lt_of_lt_of_le hk hbase)).trans (HB.block k hk)⟩
theorem Yat.put {e base g c : Nat} {W : World} {ok : Nat → Prop} {xs : List Int} (h : Yat e W base ok g c xs) (j : Nat) (hj : j < xs.length) (y : Int) : Yat e (W.setCell ⟨g, j, none⟩ (.int .u8 y)) base ok g c (xs.set j y) := by
  show Yat e (W.setCells g j [.int .u8 y]) base ok g c (xs.set j y)
  have hs : ∀ i, i < ([Value.int .u8 y] : List Value).length → (W.cell? ⟨g, j + i, none⟩).isSome = true := fun i hi => by
    simp at hi; subst hi
    exact (h.there j (Nat.lt_of_lt_of_le hj h.le)).1
  refine ⟨h.base, h.ok, obj_setCells _ _ _ h.obj, by rw [List.length_set]; exact h.le, h.max, fun i u hu => ?_, fun i hi => ⟨World.isSome_setCells g _ _ _ _ (h.there i hi).1, (World.frozen?_setCells g _ _ _ _).trans (h.there i hi).2⟩⟩
  by_cases hij : i = j
  · subst hij
    have h2 := World.cell?_setCells_in g [Value.int .u8 y] i W hs 0 (by simp)
    rw [Nat.add_zero] at h2
    rw [List.getElem?_map, List.getElem?_set_self hj] at hu
    exact h2.trans (by simpa using hu)
  · rw [List.getElem?_map, List.getElem?_set_ne (fun e => hij e.symm), ← List.getElem?_map] at hu
    rw [World.cell?_setCells_out g _ _ _ _ (fun _ _ => by show i < j ∨ j + 1 ≤ i; omega)]
    exact h.cells i u hu
theorem Yat.get {e base g c : Nat} {W : World} {ok : Nat → Prop} {xs : List Int} (h : Yat e W base ok g c xs) (j : Nat) (hj : j < xs.length) : (∃ u, W.cell? ⟨g, j, none⟩ = some (.int .u8 u)) ∧ W.frozen? ⟨g, j, none⟩ = false :=
  ⟨⟨_, h.cells j _ (by rw [List.getElem?_map, List.getElem?_eq_getElem hj]; rfl)⟩, (h.there j (Nat.lt_of_lt_of_le hj h.le)).2⟩
theorem kept_cell {w W : World} {S : Nat → Prop} (h : Kept w W S) {g : Nat} (hg : S g ∨ w.heap.size ≤ g) (j : Nat) (u : Value) : Kept w (W.setCell ⟨g, j, none⟩ u) S := (On.set (On.refl g W) j u).kept h hg
/-- bytes in block g that one's own conversion or append has made, behind world wb; a block gt beside it -/
structure Kb (e : Nat) (wb W : World) (g c : Nat) (xs : List Int) (gt : Nat) (ct : Array Value) (tt : Nat) : Prop where
  Y : Yat e W wb.heap.size (fun _ => True) g c xs
  B : Below wb.heap.size wb W
  K : W.heap[gt]? = some (.cells ct tt (0, 0))
  ne : gt ≠ g
/-- append(v, xs...) of any source -/
theorem Kb.src {wb W W0 : World} {e g c gt tt : Nat} {ct : Array Value} {xs ys : List Int} (hgd : o.guard = none) (s x : Operand) (t tx : TypeId)
    (ho : o.op = .call { callee := .builtin .append, args := #[s, x], argTypes := #[t, tx] })
    (ht : P.underlying t = some (.slice e)) (hinfo : (P.info? e).map (fun i => (i.zero, i.size, i.bytes)) = some (some (.int .u8 0), 1, 1))
    (hs : a.eval s = .slice (some ⟨g, 0, none⟩) xs.length c) (xv : Value) (hx : a.eval x = xv) (hsrc : Src P 1 tx xv ys.length (ys.map (Value.int .u8)) W0)
    (HK : Kb e wb W g c xs gt ct tt) (hW : Below W.heap.size W W0) (hl : xs.length + ys.length ≤ 1099511627776)
    (h : ∀ g1 c1 xs1 w1, xs1 = xs ++ ys → Kb e wb w1 g1 c1 xs1 gt ct tt → (∀ i, i < W.heap.size → i ≠ g → w1.heap[i]? = W.heap[i]?) → wpList P ops Q rest (a.put o.dst (.slice (some ⟨g1, 0, none⟩) xs1.length c1)) w1) : wpList P ops Q (o :: rest) a W0 := by
  have hlt := blk_lt HK.K
  refine Yat.append (w0 := wb) hgd s x t tx ho ht hinfo hs xv hx hsrc (HK.Y.carry (hW.block g HK.Y.lt)) (below_step HK.B hW) (Nat.le_trans HK.B.size hW.size) hl ?_
  intro g1 c1 w1 hg hY hB hz hfar
  refine h g1 c1 _ w1 rfl ⟨hY, hB, (hfar gt (Nat.lt_of_lt_of_le hlt hW.size) HK.ne).trans ((hW.block gt hlt).trans HK.K), ?_⟩ (fun i hi hn => (hfar i (Nat.lt_of_lt_of_le hi hW.size) hn).trans (hW.block i hi))
  rcases hg with rfl | hg
  · exact HK.ne
  · have := hW.size; omega
/-- append(v, x), the byte x -/
theorem Kb.one {wb W : World} {e g c gt tt : Nat} {ct : Array Value} {xs : List Int} (hgd : o.guard = none) (s x : Operand) (t : TypeId)
    (ho : o.op = .call { callee := .builtin .append, args := #[s, x], argTypes := #[t, t] })
    (ht : P.underlying t = some (.slice e)) (hinfo : (P.info? e).map (fun i => (i.zero, i.size, i.bytes)) = some (some (.int .u8 0), 1, 1))
    (hs : a.eval s = .slice (some ⟨g, 0, none⟩) xs.length c) (hx : a.eval x = .slice (some ⟨W.heap.size, 0, none⟩) 1 1) (y : Int)
    (HK : Kb e wb W g c xs gt ct tt) (hl : xs.length + 1 ≤ 1099511627776)
    (h : ∀ g1 c1 xs1 w1, xs1 = xs ++ [y] → Kb e wb w1 g1 c1 xs1 gt ct tt → (∀ i, i < W.heap.size → i ≠ g → w1.heap[i]? = W.heap[i]?) → wpList P ops Q rest (a.put o.dst (.slice (some ⟨g1, 0, none⟩) xs1.length c1)) w1) : wpList P ops Q (o :: rest) a (W.alloc (.cells #[.int .u8 y] e)) := by
  refine Kb.src (ys := [y]) hgd s x t t ho ht hinfo hs _ hx (Src.ofSlice _ ht ⟨W.heap.size, 0, none⟩ 1 1 _ rfl (fun j u hu => ?_) (fun u hu => ?_)) HK (below_alloc (Below.refl _ _) _) hl h
  · rw [Addr.add_lit, Nat.zero_add]
    exact (World.cell?_alloc_new W _ e j).trans (by simpa using hu)
  · simp at hu; subst hu; rfl
/-- append(v, s...), the text s -/
theorem Kb.str {wb W : World} {e g c gt tt : Nat} {ct : Array Value} {xs : List Int} (hgd : o.guard = none) (s x : Operand) (t tx : TypeId)
    (ho : o.op = .call { callee := .builtin .append, args := #[s, x], argTypes := #[t, tx] })
    (ht : P.underlying t = some (.slice e)) (hinfo : (P.info? e).map (fun i => (i.zero, i.size, i.bytes)) = some (some (.int .u8 0), 1, 1)) (hk : P.underlying tx = some .string)
    (hs : a.eval s = .slice (some ⟨g, 0, none⟩) xs.length c) (y : ByteArray) (hx : a.eval x = .string y)
    (HK : Kb e wb W g c xs gt ct tt) (hl : xs.length + y.size ≤ 1099511627776)
    (h : ∀ g1 c1 xs1 w1, xs1 = xs ++ bytesOf y → Kb e wb w1 g1 c1 xs1 gt ct tt → (∀ i, i < W.heap.size → i ≠ g → w1.heap[i]? = W.heap[i]?) → wpList P ops Q rest (a.put o.dst (.slice (some ⟨g1, 0, none⟩) xs1.length c1)) w1) : wpList P ops Q (o :: rest) a W := by
  refine Kb.src (ys := bytesOf y) hgd s x t tx ho ht hinfo hs _ hx ?_ HK (Below.refl _ _) (by rw [bytesOf_length]; exact hl) h
  have := Src.ofString (P := P) W hk y
  rw [bytesOf_length]
  rw [show (bytesOf y).map (Value.int .u8) = byteCells y by rw [bytesOf, List.map_map]; rfl]
  exact this
/-- append(v, ys...), a row that is read -/
theorem Kb.row {wb W : World} {e g c gt tt m cc : Nat} {A : Option Addr} {ct : Array Value} {xs ys : List Int} (hgd : o.guard = none) (s x : Operand) (t : TypeId)
    (ho : o.op = .call { callee := .builtin .append, args := #[s, x], argTypes := #[t, t] })
    (ht : P.underlying t = some (.slice e)) (hinfo : (P.info? e).map (fun i => (i.zero, i.size, i.bytes)) = some (some (.int .u8 0), 1, 1))
    (hs : a.eval s = .slice (some ⟨g, 0, none⟩) xs.length c) (hx : a.eval x = .slice A m cc) (HC : (Kd.int .u8).C W A m ys)
    (HK : Kb e wb W g c xs gt ct tt) (hl : xs.length + ys.length ≤ 1099511627776)
    (h : ∀ g1 c1 xs1 w1, xs1 = xs ++ ys → Kb e wb w1 g1 c1 xs1 gt ct tt → (∀ i, i < W.heap.size → i ≠ g → w1.heap[i]? = W.heap[i]?) → wpList P ops Q rest (a.put o.dst (.slice (some ⟨g1, 0, none⟩) xs1.length c1)) w1) : wpList P ops Q (o :: rest) a W := by
  have hR := Kd.reads_of_C (enc := Value.int .u8) (d := 0) (h1 := fun _ => rfl) HC
  have hlen := hR.1
  subst hlen
  refine Kb.src (ys := ys) hgd s x t t ho ht hinfo hs _ hx ?_ HK (Below.refl _ _) hl h
  cases ys with
  | nil => 
    cases A with
    | none => exact Src.ofNil _ ht cc
    | some ad => exact Src.ofSlice _ ht ad 0 cc _ rfl (fun j u hu => by simp at hu) (fun u hu => by simp at hu)
  | cons y t2 =>
    obtain ⟨ad, rfl, hc⟩ := hR.2.2 (by simp)
    refine Src.ofSlice _ ht ad _ cc _ (by simp) (fun j u hu => ?_) (fun u hu => ?_)
    · obtain ⟨hj, hu2⟩ := List.getElem?_eq_some_iff.1 hu
      rw [List.length_map] at hj
      rw [hc j hj, ← hu2, List.getElem_map, List.getD_eq_getElem?_getD, List.getElem?_eq_getElem hj]
      rfl
    · obtain ⟨_, _, rfl⟩ := List.mem_map.1 hu
      rfl
/-- []byte(s) -/
theorem Kb.conv {wb W : World} {e gt tt : Nat} {ct : Array Value} (hgd : o.guard = none) (x : Operand) (src dst : TypeId) (ho : o.op = .convert src dst x)
    (hs : P.underlying src = some .string) (hd : P.underlying dst = some (.slice e)) (he : P.underlying e = some (.int .u8)) (y : ByteArray) (hx : a.eval x = .string y) (hsz : y.size ≤ 1099511627776)
    (HB : Below wb.heap.size wb W) (hK : W.heap[gt]? = some (.cells ct tt (0, 0)))
    (h : ∀ g1 c1 xs1 w1, xs1 = bytesOf y → Kb e wb w1 g1 c1 xs1 gt ct tt → wpList P ops Q rest (a.put o.dst (.slice (some ⟨g1, 0, none⟩) xs1.length c1)) w1) : wpList P ops Q (o :: rest) a W := by
  have hlt := blk_lt hK
  have hrun : (execOp a.eval o).run P W = .ok (.value (.slice (some ⟨W.heap.size, 0, none⟩) (bytesOf y).length (grownCap W y.size 0 e))) (Lib.bytesWorld W e y) := by
    rw [bytesOf_length]
    simp [execOp, ho, hx, Lib.run_convert_string_bytes W src dst e y hs hd he, Result.andThen]
  exact Kd.event_run hgd hrun (h _ _ _ _ rfl ⟨Yat.conv y HB.size (by simp only [maxLen]; omega), below_bytesWorld y HB HB.size, (Lib.bytesWorld_at_old W e y gt hlt).trans hK, Nat.ne_of_lt hlt⟩)
theorem Kb.toY {wb W : World} {e g c gt tt lo : Nat} {ct : Array Value} {xs : List Int} {d : Kd Int} (HK : Kb e wb W g c xs gt ct tt) (h : lo ≤ wb.heap.size) : Kd.Y d e W lo (fun _ => True) (.slice (some ⟨g, 0, none⟩) xs.length c) xs :=
  .inr ⟨g, c, rfl, Nat.le_trans h HK.Y.base, trivial, HK.Y.obj, HK.Y.le, HK.Y.max, HK.Y.cells, HK.Y.there⟩
theorem Kb.drew {wb W : World} {e g c gt tt : Nat} {ct : Array Value} {xs : List Int} (HK : Kb e wb W g c xs gt ct tt) : Kb e wb W.drew g c xs gt ct tt := ⟨HK.Y.carry rfl, below_drew1 HK.B, HK.K, HK.ne⟩
theorem Kb.drewN {wb W : World} {e g c gt tt : Nat} {ct : Array Value} {xs : List Int} (HK : Kb e wb W g c xs gt ct tt) (n : Nat) : Kb e wb (W.drewN n) g c xs gt ct tt := ⟨HK.Y.carry rfl, pw_below_drewN HK.B n, blk_drewN HK.K n, HK.ne⟩
/-- another block beside it -/
theorem Kb.at_ {wb W : World} {e g c gt gt2 tt tt2 : Nat} {ct ct2 : Array Value} {xs : List Int} (HK : Kb e wb W g c xs gt ct tt) (hK : W.heap[gt2]? = some (.cells ct2 tt2 (0, 0))) (hne : gt2 ≠ g) : Kb e wb W g c xs gt2 ct2 tt2 := ⟨HK.Y, HK.B, hK, hne⟩
theorem Kb.step {wb W V : World} {e g c gt tt : Nat} {ct : Array Value} {xs : List Int} (HK : Kb e wb W g c xs gt ct tt) (hb : Below W.heap.size W V) : Kb e wb V g c xs gt ct tt := ⟨HK.Y.carry (hb.block g HK.Y.lt), below_step HK.B hb, blk_below HK.K hb, HK.ne⟩
theorem Kb.on {wb W V : World} {e g c gt tt : Nat} {ct ct2 : Array Value} {xs : List Int} (HK : Kb e wb W g c xs gt ct tt) (h : On gt W V) (hg : wb.heap.size ≤ gt) (hK : V.heap[gt]? = some (.cells ct2 tt (0, 0))) : Kb e wb V g c xs gt ct2 tt := ⟨HK.Y.carry (h.far g HK.ne.symm), h.below HK.B hg, hK, HK.ne⟩
end
end Go.Proofs.YtodblpadklheaaaDoorW.PrintWords
