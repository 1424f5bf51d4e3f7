-- Written by a program of this session.
import Derived.Test.YtllmlnagihlokaaPFnExactBoundsOfx0
import Derived.Test.YtllmlnagihlokaaPFnExactBoundsOfx13
namespace Go.Proofs.Ytllmlnagihlokaa.PFnExactBoundsOf
open Go.RowKit Go.Proofs.YtllmlnagihlokaaW.PrintWords Go.Proofs.YtllmlnagihlokaaW.PrintLast Go.Proofs.YtllmlnagihlokaaW.PrintMore
attribute [local go_sem] max2_int min2_int max_two min_two max_three min_three max_four min_four hw_string_geq hw_string_gtr hw_string_leq
set_option linter.unusedVariables false
set_option linter.unusedSimpArgs false
/-! ### impl_blockBytes: function 48, by hand -/
def impl_blockBytes.lcn (k j : Nat) (a b : ByteArray) : Option Int := if j = 0 then some 0 else impl_shared.f k a b
def impl_blockBytes.agg (k : Nat) (e : (S51)) : Option (List Int) := if e.f2 = 2 then some [] else impl_aggBytes.f k e.f3.f0 e.f3.f1 e.f3.f2 e.f3.f3 e.f3.f4 e.f3.f5
def impl_blockBytes.ent (k n : Nat) (e : (S51)) : Option (List Int) :=
 (impl_blockBytes.agg k e).bind fun g => (impl_PutVar.f k (n : Int)).bind fun p1 => (impl_PutVar.f k ((e.f0.size : Int) - (n : Int))).bind fun p2 => (impl_PutVar.f k (IntKind.u64.wrap e.f1)).bind fun p3 => (impl_PutVar.f k (g.length : Int)).bind fun p4 =>
  if e.f0.size ≤ 1000000 ∧ g.length ≤ 1000000 ∧ p1.length ≤ 100 ∧ p2.length ≤ 100 ∧ p3.length ≤ 100 ∧ p4.length ≤ 100 then some ((((((p1 ++ p2) ++ p3) ++ [e.f2 % 256]) ++ p4) ++ bytesOf (e.f0.extract n e.f0.size)) ++ g) else none
def impl_blockBytes.key (l : List (S51)) : Nat → ByteArray
 | 0 => ⟨#[]⟩
 | j + 1 => (rd_T51 l (j : Int)).f0
def impl_blockBytes.step (k : Nat) (l : List (S51)) (j : Nat) (b : List Int) : Option (List Int) := (impl_blockBytes.lcn k j (impl_blockBytes.key l j) (rd_T51 l (j : Int)).f0).bind fun n => if 0 ≤ n ∧ n ≤ ((rd_T51 l (j : Int)).f0.size : Int) then (impl_blockBytes.ent k n.toNat (rd_T51 l (j : Int))).bind fun q => if b.length ≤ 1000000000 then some (b ++ q) else none else none
def impl_blockBytes.run (k : Nat) (l : List (S51)) : Nat → Option (List Int)
 | 0 => some []
 | j + 1 => (impl_blockBytes.run k l j).bind (impl_blockBytes.step k l j)
def impl_blockBytes.f (k : Nat) (l : List (S51)) : Option (List Int) := if l.length ≤ 1000000 then impl_blockBytes.run k l l.length else none
theorem impl_blockBytes.run_before {k : Nat} {l : List (S51)} : ∀ {n j : Nat} {st : List Int}, impl_blockBytes.run k l n = some st → j ≤ n → ∃ st', impl_blockBytes.run k l j = some st' := by
 intro n
 induction n with
 | zero =>
  intro j st h hj
  obtain rfl : j = 0 := by omega
  exact ⟨_, h⟩
 | succ n ih =>
  intro j st h hj
  by_cases e : j = n + 1
  ·subst e; exact ⟨_, h⟩
  ·obtain ⟨s, hs, _⟩ := Option.bind_eq_some_iff.mp h; exact ih hs (by omega)
section
set_option maxHeartbeats 8000000 in
set_option maxRecDepth 100000 in
theorem impl_blockBytes.calls (k : Nat) (A0 : Option Addr) (c0 : Nat) (l0 : List (S51)) (r : List Int) (w : World) (hr0 : Kd.C k51 w A0 l0.length l0) (hc0 : l0.length ≤ c0) (h : impl_blockBytes.f k l0 = some r) :
  Calls Try.prog 48 #[.slice A0 l0.length c0] w fun e w' => ∃ v0_ : Value, e = .returned (v0_) ∧ Kd.R (Kd.int .u8) 5 w' w.heap.size (fun _ => True) v0_ r ∧ Below w.heap.size w w' := by
 unfold impl_blockBytes.f at h
 by_cases hl : l0.length ≤ 1000000
 case neg => rw [if_neg hl] at h; cases h
 rw [if_pos hl] at h
 have HR0 := Aside0.mk hr0
 have HRUN := Aside0.mk h
 have HL := Aside0.mk hl
 clear hr0 hc0 h hl
 have S := mK ((Sn.init (e := 5) (Below.refl w.heap.size w)))
 go_enter Try.func48, Try.ntmps48
 go_wp2_with (first | ((with_reducible refine gate_dst (N := 9) rfl ?_); refine Sn.wlit (e := 5) (y := []) (snK S.out) rfl (N := 9) rfl (by first | (go_simp; done) | (go_simp; rfl)) (by simp) ?_; intro Az cz wz hS_; clear S; have S := Aside0.mk hS_; clear hS_))
 go_loopg [3, 4, 12] l0.length (fun gg v3 v4 v12 w' => ∃ (j c : Nat) (A : Option Addr) (b : List Int), j ≤ l0.length ∧ l0.length - j ≤ gg ∧ v3 = .slice A b.length c ∧ v4 = .string (impl_blockBytes.key l0 j) ∧ v12 = .int .i64 (j : Nat) ∧ Aside0 (impl_blockBytes.run k l0 j = some b) ∧ Aside0 (Sn 5 w w w' [(v3, b)] []))
 case atStart => exact ⟨0, cz, Az, [], by omega, by omega, rfl, rfl, rfl, ⟨rfl⟩, ⟨snK S.out⟩⟩
 case round =>
  clear S; obtain ⟨j, cb, Ap, b, hj, hg, rfl, rfl, rfl, HB, S⟩ := hrel; have hl := HL.out
  by_cases hlt : j < l0.length
  ·obtain ⟨b2, hb2⟩ := impl_blockBytes.run_before HRUN.out (show j + 1 ≤ l0.length by omega)
   have hst := hb2
   unfold impl_blockBytes.run at hst
   rw [HB.out, Option.bind_some] at hst
   unfold impl_blockBytes.step at hst
   obtain ⟨ni, hni, hst⟩ := Option.bind_eq_some_iff.mp hst
   by_cases hnr : 0 ≤ ni ∧ ni ≤ ((rd_T51 l0 (j : Int)).f0.size : Int)
   case neg => rw [if_neg hnr] at hst; cases hst
   rw [if_pos hnr] at hst; obtain ⟨n, rfl⟩ := Int.eq_ofNat_of_zero_le hnr.1; rw [Int.toNat_natCast] at hst; obtain ⟨q, hq, hst⟩ := Option.bind_eq_some_iff.mp hst
   by_cases hbl : b.length ≤ 1000000000
   case neg => rw [if_neg hbl] at hst; cases hst
   rw [if_pos hbl] at hst; obtain rfl := Option.some.inj hst; obtain ⟨ad, A7, c7, ead, hx0, hx1, hx2, hx3, hx4, hx5, hx6, hx7, hx8, hl7, hi7⟩ := at_T51B HR0.out S.out.bel (j : Int) (by omega) (by omega)
   cases ead
   rw [Int.toNat_natCast] at hx0 hx1 hx2 hx3 hx4 hx5 hx6 hx7 hx8; have hkk : impl_blockBytes.key l0 (j + 1) = (rd_T51 l0 (j : Int)).f0 := rfl; generalize rd_T51 l0 (j : Int) = x at hq hni hnr hx0 hx1 hx2 hx3 hx4 hx5 hx6 hx7 hx8 hl7 hi7 hkk; generalize impl_blockBytes.key l0 j = ka at hni ⊢
   unfold impl_blockBytes.ent at hq
   obtain ⟨g, hgg, hq⟩ := Option.bind_eq_some_iff.mp hq; obtain ⟨p1, hp1, hq⟩ := Option.bind_eq_some_iff.mp hq; obtain ⟨p2, hp2, hq⟩ := Option.bind_eq_some_iff.mp hq; obtain ⟨p3, hp3, hq⟩ := Option.bind_eq_some_iff.mp hq; obtain ⟨p4, hp4, hq⟩ := Option.bind_eq_some_iff.mp hq
   by_cases hc : x.f0.size ≤ 1000000 ∧ g.length ≤ 1000000 ∧ p1.length ≤ 100 ∧ p2.length ≤ 100 ∧ p3.length ≤ 100 ∧ p4.length ≤ 100
   case neg => rw [if_neg hc] at hq; cases hq
   rw [if_pos hc] at hq; obtain rfl := Option.some.inj hq; have hle := hnr.2; have HN := Aside0.mk hni; have HG := Aside0.mk hgg; have HP1 := Aside0.mk hp1; have HP2 := Aside0.mk hp2; have HP3 := Aside0.mk hp3; have HP4 := Aside0.mk hp4; have HB2 := Aside0.mk hb2; have HK := Aside0.mk hkk; have HI := Aside0.mk hi7; have HL7 := Aside0.mk hl7; clear hni hnr hgg hp1 hp2 hp3 hp4 hb2 hst hq hkk HB hi7 hl7
   have hjl : (j : Int) < (l0.length : Int) := by omega
   have hxs : (x.f0.extract n x.f0.size).size = x.f0.size - n := by rw [ByteArray.size_extract]; omega
   go_upto_if 18 with (first | ((with_reducible refine gate_dst (N := 6) rfl ?_); (try (refine gate_guard (by rfl) ?_; dsimp only)); refine box_event ?hg (N := 6) ?hd (cs := #[.string (⟨#[]⟩ : ByteArray), .int .i64 0, .int .i64 0, .int .i64 0, .int .i64 0, .int .i64 0, .int .i64 0, .slice none 0 0, .bool false]) (t := 51) ?hr ?_; (case hd => rfl); (case hg => rfl); (case hr => first | (go_simp; done) | (go_simp; rfl)); intro gb hg_ w6 hbox hb; have SB := mK (Sn.box (snK S.out) hb hbox (by rw [hg_]; exact (Sn.bel (snK S.out)).size) (by decide)); have BK := Aside0.mk hbox; clear hg_ hbox hb; obtain ⟨_, _, _, _, _, _, _, _, _⟩ := kc9 BK.out; obtain ⟨_, _, _, _, _, _, _, _, _⟩ := kf9 BK.out))
   repeat (go_quiet (fail); go_upto_if 18 with (fail))
   go_cut [7] (fun v7 wc => v7 = .int .i64 (n : Nat) ∧ Aside0 (Sn 5 w w wc [(.slice Ap b.length cb, b)] [(gb, Obj.cells #[.string x.f0, .int .i64 x.f1, .int .i64 x.f2, .int .i64 x.f3.f0, .int .i64 x.f3.f1, .int .i64 x.f3.f2, .int .i64 x.f3.f3, .slice A7 x.f3.f4.length c7, .bool x.f3.f5] 51 (0, 0))]))
   case first =>
    have hag := HN.out
    unfold impl_blockBytes.lcn at hag
    by_cases h0 : j = 0
    ·rw [if_pos h0] at hag
     have hn0 : n = 0 := by have := Option.some.inj hag; omega
     subst hn0; have hjb : decide (0 < j) = false := decide_eq_false (by omega); (first | rw [hjb] | skip); (go_wp2; repeat (go_quiet (fail); try go_wp2))
     go_meet
     case rel => exact ⟨rfl, ⟨by (with_reducible repeat (first | apply Sn.drewN | apply Sn.drew)); exact SB.out.set9 (fun q h => (by cases h))⟩⟩
    ·rw [if_neg h0] at hag
     have HAG := Aside0.mk hag; clear hag; have hjb : decide (0 < j) = true := decide_eq_true (by omega); (first | rw [hjb] | skip)
     go_wp2_with (first | (go_at_call 78; (with_reducible refine (impl_shared.calls k _ _ _ _ HAG.out).mono ?_); rintro e w22 ⟨rfl, hb⟩; have SC := mK (show Sn 5 w w w22 [(.slice Ap b.length cb, b)] [(gb, Obj.cells #[.string x.f0, .int .i64 x.f1, .int .i64 x.f2, .int .i64 x.f3.f0, .int .i64 x.f3.f1, .int .i64 x.f3.f2, .int .i64 x.f3.f3, .slice A7 x.f3.f4.length c7, .bool x.f3.f5] 51 (0, 0))] from Sn.step (by (with_reducible repeat (first | apply Sn.drewN | apply Sn.drew)); exact SB.out.set9 (fun q h => (by cases h))) hb); clear hb))
     repeat (go_quiet (fail); try go_wp2)
     go_meet
     case rel => exact ⟨rfl, ⟨snK SC.out⟩⟩
   case rest =>
    clear S SB BK; obtain ⟨rfl, S⟩ := hcut
    obtain ⟨_, _, _, _, _, _, _, _, _⟩ := kc9 (S.out.kept _ (List.mem_cons_self ..)).1; obtain ⟨_, _, _, _, _, _, _, _, _⟩ := kf9 (S.out.kept _ (List.mem_cons_self ..)).1
    go_upto_if 26 with (first | ((with_reducible refine gate_dst (N := 23) rfl ?_); refine Sn.wlit (e := 5) (y := []) (snK S.out) rfl (N := 23) rfl (by first | (go_simp; done) | (go_simp; rfl)) (by simp) ?_; intro A23 c23 w23 hS_; have BK_ := (hS_.kept _ (List.mem_cons_self ..)).1; obtain ⟨_, _, _, _, _, _, _, _, _⟩ := kc9 BK_; obtain ⟨_, _, _, _, _, _, _, _, _⟩ := kf9 BK_; clear BK_; have SL := Aside0.mk hS_.swap; clear hS_))
    repeat (go_quiet (fail); go_upto_if 26 with (fail))
    go_cut [8] (fun v8 wc => ∃ (Ag : Option Addr) (cg : Nat), v8 = .slice Ag g.length cg ∧ Aside0 (Sn 5 w w wc [(.slice Ap b.length cb, b), (v8, g)] [(gb, Obj.cells #[.string x.f0, .int .i64 x.f1, .int .i64 x.f2, .int .i64 x.f3.f0, .int .i64 x.f3.f1, .int .i64 x.f3.f2, .int .i64 x.f3.f3, .slice A7 x.f3.f4.length c7, .bool x.f3.f5] 51 (0, 0))]))
    case first =>
     have hag := HG.out
     unfold impl_blockBytes.agg at hag
     by_cases hk : x.f2 = 2
     ·rw [if_pos hk] at hag
      obtain rfl := Option.some.inj hag; have hkb : (x.f2 == 2) = true := beq_iff_eq.mpr hk; have hkn : (x.f2 != 2) = false := bne_eq_false_iff_eq.mpr hk; (first | rw [hkn] | (simp only [i64_w]; rw [hkn]) | skip); (go_wp2; repeat (go_quiet (fail); try go_wp2))
      go_meet
      case rel => exact ⟨_, _, rfl, ⟨snK SL.out⟩⟩
     ·rw [if_neg hk] at hag
      have HAG := Aside0.mk hag; clear hag; have hkb : (x.f2 == 2) = false := beq_eq_false_iff_ne.mpr hk; have hkn : (x.f2 != 2) = true := bne_iff_ne.mpr hk; (first | rw [hkn] | (simp only [i64_w]; rw [hkn]) | skip)
      go_wp2_with (first | (go_at_call 79; refine Sn.call (snK SL.out) (impl_aggBytes.calls k x.f3.f0 x.f3.f1 x.f3.f2 x.f3.f3 _ _ x.f3.f4 x.f3.f5 g _ (Kd.C_below HI.out (Sn.bel (snK SL.out))) HL7.out HAG.out) ?_; intro A43 c43 w43 hS_; have SG := mK (hS_.swap.sub (List.sublist_append_left [_, _] [_])); clear hS_))
      repeat (go_quiet (fail); try go_wp2)
      go_meet
      case rel => exact ⟨_, _, rfl, ⟨snK SG.out⟩⟩
    case rest =>
     clear S; obtain ⟨Ag, cg, rfl, S⟩ := hcut
     obtain ⟨_, _, _, _, _, _, _, _, _⟩ := kc9 (S.out.kept _ (List.mem_cons_self ..)).1; obtain ⟨_, _, _, _, _, _, _, _, _⟩ := kf9 (S.out.kept _ (List.mem_cons_self ..)).1
     have hn0 : (n : Int) ≤ (x.f0.size : Int) := by omega
     have hnt : ((n : Nat) : Int).toNat = n := by omega
     have hu1 : IntKind.u64.wrap (n : Int) = (n : Int) := by simp [IntKind.wrap, IntKind.bits, IntKind.signed]; omega
     have hw2 : IntKind.i64.wrap ((x.f0.size : Int) - (n : Int)) = (x.f0.size : Int) - (n : Int) := by rw [i64_w]; unfold wrap64; omega
     have hu2 : IntKind.u64.wrap ((x.f0.size : Int) - (n : Int)) = (x.f0.size : Int) - (n : Int) := by simp [IntKind.wrap, IntKind.bits, IntKind.signed]; omega
     have hu4 : IntKind.u64.wrap (g.length : Int) = (g.length : Int) := by simp [IntKind.wrap, IntKind.bits, IntKind.signed]; omega
     have hf2 : IntKind.u8.wrap x.f2 = x.f2 % 256 := by simp [IntKind.wrap, IntKind.bits, IntKind.signed]
     have hw3 : IntKind.i64.wrap ((j : Int) + 1) = (j : Int) + 1 := by rw [i64_w]; unfold wrap64; omega
     go_wp2_with (first | (go_at_call 50; refine Sn.call (snK S.out) (impl_PutVar.calls k _ p1 _ HP1.out) ?_; intro A33 c33 w33 hS_; have BK_ := (hS_.kept _ (List.mem_cons_self ..)).1; obtain ⟨_, _, _, _, _, _, _, _, _⟩ := kc9 BK_; obtain ⟨_, _, _, _, _, _, _, _, _⟩ := kf9 BK_; clear BK_; have S1 := Aside0.mk hS_.swap; clear hS_) | ((with_reducible refine gate_builtin (b := .append) (xs := #[.tmp 30, .tmp 33]) rfl ?_); at_builtin; refine Sn.wapp (snK S1.out) rfl (.tmp 30) (.tmp 33) 24 rfl Try.underlying24 info5 rfl rfl (Sn.reads (c := c33) (snK S1.out) (by simp)) (by omega) ?_; intro z1 hz A34 c34 w34 hS_; have BK_ := (hS_.kept _ (List.mem_cons_self ..)).1; obtain ⟨_, _, _, _, _, _, _, _, _⟩ := kc9 BK_; obtain ⟨_, _, _, _, _, _, _, _, _⟩ := kf9 BK_; clear BK_; have Nz1 := Aside0.mk hz; have lz1 : z1.length ≤ 1000000100 := (by rw [hz, List.length_append]; omega); have S2 := Aside0.mk hS_; clear hz hS_) | (go_at_call 50; refine Sn.call (snK S2.out) (impl_PutVar.calls k _ p2 _ HP2.out) ?_; intro A42 c42 w42 hS_; have BK_ := (hS_.kept _ (List.mem_cons_self ..)).1; obtain ⟨_, _, _, _, _, _, _, _, _⟩ := kc9 BK_; obtain ⟨_, _, _, _, _, _, _, _, _⟩ := kf9 BK_; clear BK_; have S3 := Aside0.mk hS_.swap; clear hS_) | ((with_reducible refine gate_builtin (b := .append) (xs := #[.tmp 35, .tmp 42]) rfl ?_); at_builtin; refine Sn.wapp (snK S3.out) rfl (.tmp 35) (.tmp 42) 24 rfl Try.underlying24 info5 rfl rfl (Sn.reads (c := c42) (snK S3.out) (by simp)) (by omega) ?_; intro z2 hz A43 c43 w43 hS_; have BK_ := (hS_.kept _ (List.mem_cons_self ..)).1; obtain ⟨_, _, _, _, _, _, _, _, _⟩ := kc9 BK_; obtain ⟨_, _, _, _, _, _, _, _, _⟩ := kf9 BK_; clear BK_; have Nz2 := Aside0.mk hz; have lz2 : z2.length ≤ 1000000200 := (by rw [hz, List.length_append]; omega); have S4 := Aside0.mk hS_; clear hz hS_) | (go_at_call 50; refine Sn.call (snK S4.out) (impl_PutVar.calls k _ p3 _ HP3.out) ?_; intro A48 c48 w48 hS_; have BK_ := (hS_.kept _ (List.mem_cons_self ..)).1; obtain ⟨_, _, _, _, _, _, _, _, _⟩ := kc9 BK_; obtain ⟨_, _, _, _, _, _, _, _, _⟩ := kf9 BK_; clear BK_; have S5 := Aside0.mk hS_.swap; clear hS_) | ((with_reducible refine gate_builtin (b := .append) (xs := #[.tmp 44, .tmp 48]) rfl ?_); at_builtin; refine Sn.wapp (snK S5.out) rfl (.tmp 44) (.tmp 48) 24 rfl Try.underlying24 info5 rfl rfl (Sn.reads (c := c48) (snK S5.out) (by simp)) (by omega) ?_; intro z3 hz A49 c49 w49 hS_; have BK_ := (hS_.kept _ (List.mem_cons_self ..)).1; obtain ⟨_, _, _, _, _, _, _, _, _⟩ := kc9 BK_; obtain ⟨_, _, _, _, _, _, _, _, _⟩ := kf9 BK_; clear BK_; have Nz3 := Aside0.mk hz; have lz3 : z3.length ≤ 1000000300 := (by rw [hz, List.length_append]; omega); have S6 := Aside0.mk hS_; clear hz hS_) | ((with_reducible refine gate_dst (N := 54) rfl ?_); refine Sn.wlit (e := 5) (y := [x.f2 % 256]) (snK S6.out) rfl (N := 54) rfl (by first | (go_simp; done) | (go_simp; rfl)) (by simp) ?_; intro A54 c54 w54 hS_; have BK_ := (hS_.kept _ (List.mem_cons_self ..)).1; obtain ⟨_, _, _, _, _, _, _, _, _⟩ := kc9 BK_; obtain ⟨_, _, _, _, _, _, _, _, _⟩ := kf9 BK_; clear BK_; have S7 := Aside0.mk hS_.swap; clear hS_) | ((with_reducible refine gate_builtin (b := .append) (xs := #[.tmp 50, .tmp 54]) rfl ?_); at_builtin; refine Sn.wapp (snK S7.out) rfl (.tmp 50) (.tmp 54) 24 rfl Try.underlying24 info5 rfl rfl (Sn.reads (c := c54) (snK S7.out) (by simp)) (by simp only [List.length_cons, List.length_nil]; omega) ?_; intro z4 hz A55 c55 w55 hS_; have BK_ := (hS_.kept _ (List.mem_cons_self ..)).1; obtain ⟨_, _, _, _, _, _, _, _, _⟩ := kc9 BK_; obtain ⟨_, _, _, _, _, _, _, _, _⟩ := kf9 BK_; clear BK_; have Nz4 := Aside0.mk hz; have lz4 : z4.length ≤ 1000000301 := (by rw [hz, List.length_append]; simp only [List.length_cons, List.length_nil]; omega); have S8 := Aside0.mk hS_; clear hz hS_) | (go_at_call 50; refine Sn.call (snK S8.out) (impl_PutVar.calls k _ p4 _ HP4.out) ?_; intro A60 c60 w60 hS_; have BK_ := (hS_.kept _ (List.mem_cons_self ..)).1; obtain ⟨_, _, _, _, _, _, _, _, _⟩ := kc9 BK_; obtain ⟨_, _, _, _, _, _, _, _, _⟩ := kf9 BK_; clear BK_; have S9 := Aside0.mk hS_.swap; clear hS_) | ((with_reducible refine gate_builtin (b := .append) (xs := #[.tmp 56, .tmp 60]) rfl ?_); at_builtin; refine Sn.wapp (snK S9.out) rfl (.tmp 56) (.tmp 60) 24 rfl Try.underlying24 info5 rfl rfl (Sn.reads (c := c60) (snK S9.out) (by simp)) (by omega) ?_; intro z5 hz A61 c61 w61 hS_; have BK_ := (hS_.kept _ (List.mem_cons_self ..)).1; obtain ⟨_, _, _, _, _, _, _, _, _⟩ := kc9 BK_; obtain ⟨_, _, _, _, _, _, _, _, _⟩ := kf9 BK_; clear BK_; have Nz5 := Aside0.mk hz; have lz5 : z5.length ≤ 1000000401 := (by rw [hz, List.length_append]; omega); have Sa := Aside0.mk hS_; clear hz hS_) | ((with_reducible refine gate_builtin (b := .append) (xs := #[.tmp 62, .tmp 66]) rfl ?_); at_builtin; refine Sn.wstr (snK Sa.out) rfl (.tmp 62) (.tmp 66) 24 9 rfl Try.underlying24 Try.underlying9 info5 (x.f0.extract n x.f0.size) rfl rfl (by rw [hxs]; omega) ?_; intro z6 hz A67 c67 w67 hS_; have BK_ := (hS_.kept _ (List.mem_cons_self ..)).1; obtain ⟨_, _, _, _, _, _, _, _, _⟩ := kc9 BK_; obtain ⟨_, _, _, _, _, _, _, _, _⟩ := kf9 BK_; clear BK_; have Nz6 := Aside0.mk hz; have lz6 : z6.length ≤ 1001000401 := (by rw [hz, List.length_append, bytesOf_length, hxs]; omega); have Sb := Aside0.mk hS_; clear hz hS_) | ((with_reducible refine gate_builtin (b := .append) (xs := #[.tmp 67, .tmp 68]) rfl ?_); at_builtin; refine Sn.wapp (snK Sb.out) rfl (.tmp 67) (.tmp 68) 24 rfl Try.underlying24 info5 rfl rfl (Sn.reads (c := cg) (snK Sb.out) (by simp)) (by omega) ?_; intro z7 hz A69 c69 w69 hS_; have BK_ := (hS_.kept _ (List.mem_cons_self ..)).1; obtain ⟨_, _, _, _, _, _, _, _, _⟩ := kc9 BK_; obtain ⟨_, _, _, _, _, _, _, _, _⟩ := kf9 BK_; clear BK_; have Nz7 := Aside0.mk hz; have S_e := Aside0.mk hS_; clear hz hS_))
     go_roundg (l0.length - (j + 1))
     case measure => omega
     case rel =>
      refine ⟨j + 1, _, _, z7, by omega, by omega, rfl, congrArg Value.string HK.out.symm, (by (try rw [hw3]); congr 1), ⟨?_⟩, ⟨by (with_reducible repeat (first | apply Sn.drewN | apply Sn.drew)); exact (S_e.out.sub (List.sublist_append_left [_] _)).keep (K' := []) (fun _ h => (by cases h))⟩⟩; rw [HB2.out, Nz7.out, Nz6.out, Nz5.out, Nz4.out, Nz3.out, Nz2.out, Nz1.out]; simp only [List.append_assoc]
  ·obtain rfl : j = l0.length := by omega
   have hst := Option.some.inj (HB.out.symm.trans HRUN.out); subst hst
   go_wp2
   go_ret
   exact ⟨_, rfl, S.out.row _ (List.mem_cons_self ..), S.out.bel⟩
end
/-! ### impl_sized: function 49 -/
def impl_sized.f (k : Nat) (a0 : ByteArray) : Option (List Int) := (impl_PutVar.f k (IntKind.u64.wrap ((a0.size : Int)))).bind fun t255 => (if t255.length + a0.size < 140737488355328 then (some (t255 ++ bytesOf a0)) else (none))
set_option maxHeartbeats 8000000 in
set_option maxRecDepth 100000 in
theorem impl_sized.calls (k : Nat) (a0 : ByteArray) (r : List Int) (w : World) (h : impl_sized.f k a0 = some r) :
  Calls Try.prog 49 #[.string a0] w fun e w' => ∃ v0_ : Value, e = .returned (v0_) ∧ Kd.R (Kd.int .u8) 5 w' w.heap.size (fun _ => True) v0_ r ∧ Below w.heap.size w w' := by
 have HB := mK (Below.refl w.heap.size w)
 have H : ((impl_PutVar.f k (IntKind.u64.wrap ((a0.size : Int)))).bind fun t255 => (if t255.length + a0.size < 140737488355328 then (some (t255 ++ bytesOf a0)) else (none))) = some r := h
 clear h
 replace H := Option.bind_eq_some_iff.mp H
 obtain ⟨t255, A20, H⟩ := H
 (try dsimp only at H)
 have A2 := Aside0.mk A20
 clear A20
 by_cases c3 : t255.length + a0.size < 140737488355328
 ·rw [if_pos c3] at H
  have LMc3 := Aside0.mk c3; clear c3; obtain ⟨y258, hy258⟩ : ∃ y_ : List Int, y_ = (t255 ++ bytesOf a0) := ⟨_, rfl⟩
  replace H : (some y258) = some r := by first | (rw [hy258]; with_reducible exact H) | (have H2_ := (Option.bind_some _ _).symm.trans H; rw [hy258]; with_reducible exact H2_) | (have H2_ := (Option.bind_some _ _).symm.trans H; with_reducible exact H2_) | with_reducible exact H | (rw [hy258]; exact H) | exact H
  have Ny258 := Aside0.mk hy258; clear hy258; obtain rfl := Option.some.inj H
  go_enter Try.func49, Try.ntmps49
  go_wp2_with (first | ((with_reducible refine gate_callee (f := 50) rfl ?_); refine gL (some 6) Try.func50 #[.int .u64 (IntKind.u64.wrap ((a0.size : Int)))] ?_; (with_reducible refine (impl_PutVar.calls k (IntKind.u64.wrap ((a0.size : Int))) t255 _ A2.out).mono ?_); rintro e w4 ⟨v256, rfl, ho0, hb⟩; refine ⟨_, rfl, ?_⟩; have _ := mK (Kd.R_lower ho0 (below_size (bL HB.out))); have _ := mK (below_step (bL HB.out) hb); clear HB; rename_i HO257 HB; (try clear hb); (try clear hb2); (try clear hk); (try clear hi); (try clear ho0)) | (at_builtin; refine print_append_str (w0 := w) w.heap.size rfl (.tmp 6) _ 24 9 5 rfl Try.underlying24 Try.underlying9 info5 v256 t255 a0 rfl rfl ?aO ?aB ?aS ?aL ?_; (case aB => exact (bL HB.out)); (case aO => exact (Kd.own_of_R (rK HO257.out))); (case aS => exact (below_size (bL HB.out))); (case aL => have := LMc3.out; omega); intro v259 w5 ho0 hb hg; have ho := Kd.R_of_own (h1 := fun _ => rfl) (ok := fun _ => True) ho0 (fun _ _ => trivial); clear ho0; have hat := True.intro; rw [← Ny258.out] at ho; change Kd.R (Kd.int .u8) 5 w5 w.heap.size (fun _ => True) v259 y258 at ho; have _ := mK (hb); have _ := mK (ho); clear HB HO257; rename_i HB HO260; clear ho hb hg hat))
  go_ret
  exact ⟨_, sE, rK HO260.out, bL HB.out⟩
 ·rw [if_neg c3] at H; exact absurd H (by simp)
/-! ### impl_hash: function 111, by hand -/
def impl_hash.l0 : Nat → ByteArray → Int → Int → Option (Int)
 | 0, _, _, _ => none
 | k + 1, x0, x5, x15 => if x15 < (x0.size : Int) then (if 0 ≤ x15 then (impl_hash.l0 k x0 (((Go.bits .xor .u32 x5 ((rd (bytesOf x0) x15) % 4294967296)) * 16777619) % 4294967296) (wrap64 (x15 + 1))) else (none)) else (some (Go.bits .xor .u32 x5 (x5 / 32768)))
def impl_hash.f (k : Nat) (a0 : ByteArray) (a1 : Int) : Option (Int) := if a0.size ≤ 9223372036854775807 then impl_hash.l0 k a0 ((2166136261 + ((a1 % 4294967296) * 40503)) % 4294967296) 0 else none
set_option maxHeartbeats 8000000 in
set_option maxRecDepth 100000 in
theorem impl_hash.calls (k : Nat) (a0 : ByteArray) (a1 : Int) (r : Int) (w : World) (h : impl_hash.f k a0 a1 = some r) :
  Calls Try.prog 111 #[.string a0, .int .i64 a1] w fun e w' => e = .returned (.int .u32 r) ∧ Below w.heap.size w w' := by
 unfold impl_hash.f at h
 by_cases hsz : a0.size ≤ 9223372036854775807
 ·rw [if_pos hsz] at h
  obtain ⟨W1, c, hrun, hB, hr⟩ := conv_bytes (P := Try.prog) w 9 24 5 a0 Try.underlying9 Try.underlying24 Try.underlying5 hsz; have HB := Aside0.mk hB; have HR := Aside0.mk hr; have HS := Aside0.mk hsz; clear hB hr hsz; have H' := Aside0.mk h; clear h
  go_enter Try.func111, Try.ntmps111
  go_wp2
  simp only [Int.add_emod_emod]
  go_loopg [5, 15] k (fun kq v5 v6 w' => ∃ (x5_1 : Int) (x6_1 : Int), v5 = .int .u32 x5_1 ∧ v6 = .int .i64 x6_1 ∧ Aside0 (impl_hash.l0 kq a0 x5_1 x6_1 = some r) ∧ Aside0 (kq ≤ k) ∧ Drawn0 W1 w')
  case atStart => exact ⟨_, 0, rfl, rfl, H', ⟨Nat.le_refl _⟩, Drawn0.refl _⟩
  case round =>
   clear H'; obtain ⟨x5_1, x6_1, rfl, rfl, HA, HK1, ⟨m1, rfl⟩⟩ := hrel
   cases gk with
   | zero => exact absurd HA.out (by simp [impl_hash.l0])
   | succ k1 =>
    have H := HA.out; clear HA; simp only [impl_hash.l0] at H
    by_cases c3 : x6_1 < (a0.size : Int)
    ·rw [if_pos c3] at H
     have c3b0 : decide (x6_1 < (a0.size : Int)) = true := decide_eq_true c3
     by_cases c4 : 0 ≤ x6_1
     ·rw [if_pos c4] at H
      have c4b0 : decide (0 ≤ x6_1) = true := decide_eq_true c4; obtain ⟨ad5, e5, hx5⟩ := Kd.at_int HR.out x6_1 c4 c3
      cases e5
      rw [add_plain] at hx5; replace c3 := eq_true c3; replace c4 := eq_true c4; have H' := Aside0.mk H; clear H
      go_wp2
      go_roundg k1
      case measure => have := HK1.out; omega
      case rel => exact ⟨_, _, rfl, rfl, H', ⟨by have := HK1.out; omega⟩, dR⟩
     ·rw [if_neg c4] at H; exact absurd H (by simp)
    ·rw [if_neg c3] at H
     have c3b0 : decide (x6_1 < (a0.size : Int)) = false := decide_eq_false c3; clear c3; obtain rfl := Option.some.inj H
     go_wp2
     go_ret
     exact ⟨sE, pw_below_drewN HB.out _⟩
 ·rw [if_neg hsz] at h
  cases h
/-! ### impl_Filter_places: function 80 -/
def impl_Filter_places.l0 : Nat → Int → Int → List Int → Int → Int → Int → List Int → Option (List Int)
 | 0, _, _, _, _, _, _, _ => none
 | k + 1, x5, x6, x7, x15, x16, x262000, x262001 => if x16 < x15 then (if ((wrap64 (8 * (x262001.length : Int))) % 4294967296) = 0 then (none) else (if x7.length < 17592186044416 then (impl_Filter_places.l0 k x5 x6 (x7 ++ [wrap64 (((x5 + (((x16) % 4294967296) * x6)) % 4294967296) % ((wrap64 (8 * (x262001.length : Int))) % 4294967296))]) x15 (wrap64 (x16 + 1)) x262000 x262001) else (none))) else (some x7)
def impl_Filter_places.f (k : Nat) (a0_0 : Int) (l0_1 : List Int) (a1 : ByteArray) : Option (List Int) := (impl_hash.f k a1 0).bind fun t262 => ((impl_hash.f k a1 1).bind fun t263 => (impl_Filter_places.l0 k t262 t263 (([] : List Int)) a0_0 0 a0_0 l0_1))
set_option maxHeartbeats 8000000 in
set_option maxRecDepth 100000 in
theorem impl_Filter_places.calls (k : Nat) (a0_0 : Int) (A0_1 : Option Addr) (c0_1 : Nat) (l0_1 : List Int) (a1 : ByteArray) (r : List Int) (w : World) (hr0_1 : Kd.C (Kd.int .u8) w A0_1 l0_1.length l0_1) (hc0_1 : l0_1.length ≤ c0_1) (h : impl_Filter_places.f k a0_0 l0_1 a1 = some r) :
  Calls Try.prog 80 #[.agg #[.int .i64 a0_0, .slice A0_1 l0_1.length c0_1], .string a1] w fun e w' => ∃ v0_ : Value, e = .returned (v0_) ∧ Kd.R (Kd.int .i64) 3 w' w.heap.size (fun _ => True) v0_ r ∧ Below w.heap.size w w' := by
 have hu64 := Try.underlying64
 have HR0_1 := Aside0.mk hr0_1
 have HC0_1 := Aside0.mk hc0_1
 clear hr0_1 hc0_1
 have HB := mK (Below.refl w.heap.size w)
 have H : ((impl_hash.f k a1 0).bind fun t262 => ((impl_hash.f k a1 1).bind fun t263 => (impl_Filter_places.l0 k t262 t263 (([] : List Int)) a0_0 0 a0_0 l0_1))) = some r := h
 clear h
 replace H := Option.bind_eq_some_iff.mp H
 obtain ⟨t262, A30, H⟩ := H
 (try dsimp only at H)
 have A3 := Aside0.mk A30
 clear A30
 replace H := Option.bind_eq_some_iff.mp H
 obtain ⟨t263, A40, H⟩ := H
 (try dsimp only at H)
 have A4 := Aside0.mk A40
 clear A40
 obtain ⟨y264, hy264⟩ : ∃ y_ : List Int, y_ = (([] : List Int)) := ⟨_, rfl⟩
 replace H : (impl_Filter_places.l0 k t262 t263 y264 a0_0 0 a0_0 l0_1) = some r := by first | (rw [hy264]; with_reducible exact H) | (have H2_ := (Option.bind_some _ _).symm.trans H; rw [hy264]; with_reducible exact H2_) | (have H2_ := (Option.bind_some _ _).symm.trans H; with_reducible exact H2_) | with_reducible exact H | (rw [hy264]; exact H) | exact H
 have Ny264 := Aside0.mk hy264
 clear hy264
 have H' := Aside0.mk H
 clear H
 go_enter Try.func80, Try.ntmps80
 go_wp2_with (first | ((with_reducible refine gate_dst (N := 2) rfl ?_); refine box_event ?hg (N := 2) ?hd (cs := #[.int .i64 a0_0, .slice A0_1 l0_1.length c0_1]) (t := 64) ?hr ?_; (case hd => rfl); (case hg => rfl); (case hr => first | (go_simp; done) | (go_simp; rfl)); intro gb261 hg w5 hbox hb; have _ := mK (below_step (bL HB.out) hb); have _ := mK (hbox); have _ := mK (sL hg (bL HB.out)); clear HB; rename_i HB BK261 GE261; clear hb hbox hg) | ((with_reducible refine gate_callee (f := 111) rfl ?_); refine gL (some 10) Try.func111 #[.string a1, .int .i64 0] ?_; (with_reducible refine (impl_hash.calls k a1 0 t262 _ A3.out).mono ?_); rintro e w6 ⟨rfl, hb⟩; refine ⟨_, rfl, ?_⟩; have _ := mK (blk_below (bK BK261.out) hb); have _ := mK (below_step (bL HB.out) hb); clear BK261 HB; rename_i BK261 HB; (try clear hb); (try clear hb2); (try clear hk); (try clear hi)) | ((with_reducible refine gate_callee (f := 111) rfl ?_); refine gL (some 12) Try.func111 #[.string a1, .int .i64 1] ?_; (with_reducible refine (impl_hash.calls k a1 1 t263 _ A4.out).mono ?_); rintro e w7 ⟨rfl, hb⟩; refine ⟨_, rfl, ?_⟩; have _ := mK (blk_below (bK BK261.out) hb); have _ := mK (below_step (bL HB.out) hb); clear BK261 HB; rename_i BK261 HB; (try clear hb); (try clear hb2); (try clear hk); (try clear hi)) | ((with_reducible refine gate_dst (N := 13) rfl ?_); refine Kd.R_lit (Kd.int .i64) _ 3 ?hg (N := 13) ?hd (xs := ([] : List Int)) (inner := []) (ok := fun _ => True) (okp := fun _ => True) ?hr ?hp (fun _ hk => hk) trivial (Below.refl _ _) (Nat.le_refl _) (by simp) ?_; (case hd => rfl); (case hg => rfl); (case hr => first | (go_simp; done) | (go_simp; rfl)); (case hp => exact (Reps.none _ _)); intro v265 w8 ho9 hb hg_ hnew_; clear hg_ hnew_; (first | rw [← Ny264.out] at ho9 | (simp only [Int.reduceToNat] at ho9; rw [← Ny264.out] at ho9)); have _ := mK (Kd.R_lower ho9 (below_size (bL HB.out))); have _ := mK (blk_below (bK BK261.out) hb); have _ := mK (below_step (bL HB.out) hb); clear BK261 HB; rename_i HO266 BK261 HB; clear hb ho9; obtain ⟨hcz10_0, hcz10_1⟩ := c2 BK261.out; obtain ⟨hfz10_0, hfz10_1⟩ := f2 BK261.out))
 go_loopg [7, 16] k (fun kq v7 v16 w' => ∃ (x7_1 : List Int) (x16_1 : Int), v16 = .int .i64 x16_1 ∧ Aside0 (impl_Filter_places.l0 kq t262 t263 x7_1 a0_0 x16_1 a0_0 l0_1 = some r) ∧ Aside0 (kq ≤ k) ∧ Aside0 (Kd.R (Kd.int .i64) 3 w' w.heap.size (fun _ => True) v7 x7_1) ∧ Aside0 (w'.heap[gb261]? = some (.cells #[.int .i64 a0_0, (.slice A0_1 l0_1.length c0_1)] 64 (0, 0))) ∧ Aside0 (Below w.heap.size w w'))
 case atStart => exact ⟨(y264), (0), sE, H', ⟨Nat.le_refl _⟩, ⟨rK HO266.out⟩, ⟨bK BK261.out⟩, ⟨bL HB.out⟩⟩
 case round =>
  clear H'
  try clear c1
  try clear p2
  try clear c8
  try clear hcz10_0
  try clear hcz10_1
  try clear hfz10_0
  try clear hfz10_1
  obtain ⟨x7_1, x16_1, rfl, HA, HK1, HO_7, BK261, HB⟩ := hrel
  cases gk with
  | zero => exact absurd HA.out (by simp [impl_Filter_places.l0])
  | succ k1 =>
   have H := HA.out; clear HA; simp only [impl_Filter_places.l0] at H
   by_cases c11 : x16_1 < a0_0
   ·rw [if_pos c11] at H
    have c11b0 : decide (x16_1 < a0_0) = true := decide_eq_true c11; clear c11
    by_cases c12 : ((wrap64 (8 * (l0_1.length : Int))) % 4294967296) = 0
    ·rw [if_pos c12] at H; exact absurd H (by simp)
    ·rw [if_neg c12] at H
     have c12b0 : (((wrap64 (8 * (l0_1.length : Int))) % 4294967296) == 0) = false := beq_eq_false_iff_ne.mpr c12; have c12b1 : (((wrap64 (8 * (l0_1.length : Int))) % 4294967296) != 0) = true := bne_iff_ne.mpr c12
     by_cases c13 : x7_1.length < 17592186044416
     ·rw [if_pos c13] at H
      have LMc13 := Aside0.mk c13; clear c13; obtain ⟨y267, hy267⟩ : ∃ y_ : List Int, y_ = (x7_1 ++ [wrap64 (((t262 + (((x16_1) % 4294967296) * t263)) % 4294967296) % ((wrap64 (8 * (l0_1.length : Int))) % 4294967296))]) := ⟨_, rfl⟩
      replace H : (impl_Filter_places.l0 k1 t262 t263 y267 a0_0 (wrap64 (x16_1 + 1)) a0_0 l0_1) = some r := by first | (rw [hy267]; with_reducible exact H) | (have H2_ := (Option.bind_some _ _).symm.trans H; rw [hy267]; with_reducible exact H2_) | (have H2_ := (Option.bind_some _ _).symm.trans H; with_reducible exact H2_) | with_reducible exact H | (rw [hy267]; exact H) | exact H
      have Ny267 := Aside0.mk hy267; clear hy267; have H' := Aside0.mk H; clear H; obtain ⟨_, _⟩ := c2 BK261.out; obtain ⟨_, _⟩ := f2 BK261.out
      go_wp2_with (first | ((with_reducible refine gate_builtin (b := .append) (xs := #[.tmp 19, .tmp 33]) rfl ?_); at_builtin; refine Kd.R_append (Kd.int .i64) (w0 := w) w.heap.size rfl (.tmp 19) (.tmp 33) 41 3 (.int .i64 0) 8 rfl Try.underlying41 info3 rfl (by decide) (by omega) u7 x7_1 (wrap64 (((t262 + (((x16_1) % 4294967296) * t263)) % 4294967296) % ((wrap64 (8 * (l0_1.length : Int))) % 4294967296))) [.int .i64 (wrap64 (((t262 + (((x16_1) % 4294967296) * t263)) % 4294967296) % ((wrap64 (8 * (l0_1.length : Int))) % 4294967296)))] (fun _ => True) (fun _ => False) rfl rfl ?aP (fun _ hk => hk.elim) ?aF ?aO ?aB ?aS ?aL ?_; (case aP => exact rfl); (case aB => exact (bL HB.out)); (case aF => exact (fun _ _ => trivial)); (case aO => exact (rK HO_7.out)); (case aS => exact (below_size (bL HB.out))); (case aL => have := LMc13.out; omega); intro v268 w15 ho hb hg hat; rw [← Ny267.out] at ho; have _ := mK (blk_grown (bK BK261.out) hg (Kd.R_ne HO_7.out BK261.out (by decide))); have _ := mK (hb); have _ := mK (ho); clear BK261 HB HO_7; rename_i BK261 HB HO269; clear ho hb hg hat))
      go_roundg k1
      case measure => have := HK1.out; omega
      case rel => exact ⟨(y267), (wrap64 (x16_1 + 1)), sE, H', ⟨by have := HK1.out; omega⟩, ⟨rK HO269.out⟩, ⟨bK BK261.out⟩, ⟨bL HB.out⟩⟩
     ·rw [if_neg c13] at H; exact absurd H (by simp)
   ·rw [if_neg c11] at H
    have c11b0 : decide (x16_1 < a0_0) = false := decide_eq_false c11; clear c11; obtain rfl := Option.some.inj H
    go_wp2
    go_ret
    exact ⟨_, sE, rK HO_7.out, bL HB.out⟩
end Go.Proofs.Ytllmlnagihlokaa.PFnExactBoundsOf
