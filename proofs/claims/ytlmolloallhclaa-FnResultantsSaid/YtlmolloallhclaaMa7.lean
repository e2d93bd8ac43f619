/- Joined texts of a claim: the printed functions and what is proved of them. -/
import Derived.Test.YtlmolloallhclaaYHx0
import Derived.Test.YtlmolloallhclaaMa3
import Derived.Test.YtlmolloallhclaaMa2
import Derived.Test.YtlmolloallhclaaMa6
import Derived.Test.YtlmolloallhclaaMa4
namespace Go.Proofs.Ytlmolloallhclaa.H
open Go.RowKit Go.Proofs.YtlmolloallhclaaW.PrintWords Go.Proofs.YtlmolloallhclaaW.PrintLast Go.Proofs.YtlmolloallhclaaW.PrintMore
attribute [local go_sem] max2_int min2_int max_two min_two max_three min_three max_four min_four   -- for this text's walks alone
set_option linter.unusedVariables false
set_option linter.unusedSimpArgs false
noncomputable section
mutual
def spec_DiscriminantOf.j0 : Nat → Int → List Int → Int → Bool → Option (Int × Int)
 | 0, _, _, _, _ => none
 | k + 1, x0, x1, x6, x22 => if x22 = true then (spec_DiscriminantOf.j1 k x0 x1 5) else (spec_DiscriminantOf.j1 k x0 x1 x6)
def spec_DiscriminantOf.j1 : Nat → Int → List Int → Int → Option (Int × Int)
 | 0, _, _, _ => none
 | k + 1, x0, x1, x6 => if x6 = 0 then (if 0 ≤ (wrap64 ((x1.length : Int) - 1)) then (if (wrap64 ((x1.length : Int) - 1) : Int).toNat ≤ 35184372088832 then ((spec_l01Derive.f k x0 x1).bind fun t384 => (spec_DiscriminantOf.l0 k x0 x1 (wrap64 ((x1.length : Int) - 1)) (List.replicate (wrap64 ((x1.length : Int) - 1) : Int).toNat 0) t384 0)) else (none)) else (none)) else (some (0, x6))
def spec_DiscriminantOf.l0 : Nat → Int → List Int → Int → List Int → List Int → Int → Option (Int × Int)
 | 0, _, _, _, _, _, _ => none
 | k + 1, x0, x1, x7, x8, x9, x10 => if x10 < (x9.length : Int) then (if 0 ≤ x10 then (if x10 < (x8.length : Int) then (spec_DiscriminantOf.l0 k x0 x1 x7 (x8.set (x10 : Int).toNat (rd x9 x10)) x9 (wrap64 (x10 + 1))) else (none)) else (none)) else ((spec_l06Sylvester.f k x0 x1 x8).bind fun t389 => (if 0 ≤ x7 then (if x7 < (x1.length : Int) then ((spec_l01Inverse.f k x0 (rd x1 x7)).bind fun t391 => (if x0 = 0 then (none) else (if (Int.tmod (wrap64 (Int.tdiv (wrap64 (x7 * (wrap64 (x7 - 1)))) 2)) 2) = 1 then ((spec_l01Mod.f x0 (wrap64 (-(Int.tmod (wrap64 (t389 * t391)) x0)))).bind fun t392 => (some (t392, 0))) else (some (Int.tmod (wrap64 (t389 * t391)) x0, 0))))) else (none)) else (none)))
end
def spec_DiscriminantOf.f (k : Nat) (a0 : Int) (l1 : List Int) : Option (Int × Int) := (spec_l06Code.f k a0 (([l1] : List (List Int)))).bind fun t380 => (if t380 = 0 then (spec_DiscriminantOf.j0 k a0 l1 t380 ((l1.length : Int) == 1)) else (spec_DiscriminantOf.j0 k a0 l1 t380 false))
def spec_DiscriminantOf.T13 : Bool × List (List Nat × List Nat) := (true, [([], []), ([], []), ([], []), ([0, 1, 2], [0, 1, 2]), ([], []), ([], []), ([], []), ([5, 6], [5, 6]), ([7], [7]), ([4, 8, 3], [4, 8]), ([3, 9], [3, 9]), ([], []), ([10, 11], [10, 11]), ([12, 9, 0, 1, 2, 3, 4, 5, 6, 7, 8, 9, 10, 11, 12], [12])])
def spec_DiscriminantOf.B13 : List Nat := [0, 0, 0, 7, 0, 0, 0, 96, 224, 511, 1023, 0, 4095, 8191]
theorem spec_DiscriminantOf.tab13 : rtab .any (opsOf Try.f23 13) = spec_DiscriminantOf.T13 := by kernel_rfl
theorem spec_DiscriminantOf.bits13 : waitsOk spec_DiscriminantOf.T13.2 spec_DiscriminantOf.B13 = true := by kernel_rfl
set_option maxHeartbeats 8000000 in
set_option maxRecDepth 100000 in
theorem spec_DiscriminantOf.calls (k : Nat) (a0 : Int) (P1_ : Nat → Prop) (A1 : Option Addr) (c1 : Nat) (l1 : List Int) (r1 : Int) (r2 : Int) (w : World) (hs1 : Kd.V (Kd.int .i64) 2 w w.heap.size (fun k_ => P1_ k_) (.slice A1 l1.length c1) l1) (h : spec_DiscriminantOf.f k a0 l1 = some (r1, r2)) :
  Calls Try.prog 23 #[.int .i64 a0, .slice A1 l1.length c1] w fun e w' => e = .returned (.tuple #[.int .i64 r1, .int .i64 r2]) ∧ Below w.heap.size w w' := by
 have HO1 := as0 (show Kd.V (Kd.int .i64) 2 w w.heap.size (fun k_ => (P1_ k_ ∨ w.heap.size ≤ k_)) (.slice A1 l1.length c1) l1 from Kd.V_mono hs1 (fun k_ hk => .inl hk))
 have HB := as0 (Below.refl w.heap.size w)
 have H : ((spec_l06Code.f k a0 (([l1] : List (List Int)))).bind fun t380 => (if t380 = 0 then (spec_DiscriminantOf.j0 k a0 l1 t380 ((l1.length : Int) == 1)) else (spec_DiscriminantOf.j0 k a0 l1 t380 false))) = some (r1, r2) := h
 clear h
 obtain ⟨y377, hy377⟩ : ∃ y_ : List (List Int), y_ = (([l1] : List (List Int))) := ⟨_, rfl⟩
 replace H : ((spec_l06Code.f k a0 y377).bind fun t380 => (if t380 = 0 then (spec_DiscriminantOf.j0 k a0 l1 t380 ((l1.length : Int) == 1)) else (spec_DiscriminantOf.j0 k a0 l1 t380 false))) = some (r1, r2) := by first | (rw [hy377]; with_reducible exact H) | (have H2_ := (Option.bind_some _ _).symm.trans H; rw [hy377]; with_reducible exact H2_) | (have H2_ := (Option.bind_some _ _).symm.trans H; with_reducible exact H2_) | with_reducible exact H | (rw [hy377]; exact H) | exact H
 have Ny377 := as0 hy377
 clear hy377
 replace H := Option.bind_eq_some_iff.mp H
 obtain ⟨t380, A30, H⟩ := H
 have A3 := as0 A30
 clear A30
 have HC4 := as0 H
 clear H
 go_enter Try.func23, Try.ntmps23
 go_upto_region 2 with (first | ((with_reducible refine gate_dst (N := 14) rfl ?_); (try (refine gate_guard (by rfl) ?_; dsimp only)); refine Kd.N_lit (Kd.slice 2 (Kd.int .i64)) _ 22 ?hg (N' := 14) ?hd (xs := ([l1] : List (List Int))) (inner := [.slice A1 l1.length c1]) (ok := (fun k_ => (P1_ k_ ∨ w.heap.size ≤ k_))) (okp := (fun k_ => (P1_ k_ ∨ w.heap.size ≤ k_))) ?hr ?hp (fun _ hk => hk) ((show ∀ k_, w.heap.size ≤ k_ → (fun k_ => (P1_ k_ ∨ w.heap.size ≤ k_)) k_ from fun k_ hk => (.inr (Nat.le_trans (below_size (bs HB)) hk))) _ (Nat.le_refl _)) (Below.refl _ _) (Nat.le_refl _) (by simp) ?_; (case hd => rfl); (case hg => rfl); (case hr => first | (go_simp; done) | (go_simp; rfl)); (case hp => exact (Reps.one (show Kd.FK (Kd.slice 2 (Kd.int .i64)) _ _ l1 [.slice A1 l1.length c1] from (Kd.FK_slice_mk (Kd.V_reads' (Kd.V_mono (ok' := (fun k_ => (P1_ k_ ∨ w.heap.size ≤ k_))) (HO1.out) (fun k_ hk => hk))).2.1 (Kd.V_F (Kd.V_mono (ok' := (fun k_ => (P1_ k_ ∨ w.heap.size ≤ k_))) (HO1.out) (fun k_ hk => hk))))) (Reps.none _ _))); intro v378 w5 ho6 hb hg_ hnew_; clear hg_ hnew_; (first | rw [← Ny377.out] at ho6 | (simp only [Int.reduceToNat] at ho6; rw [← Ny377.out] at ho6)); have n0_ := as0 (Kd.V_elder' (by (with_reducible repeat (first | apply Kd.V_alloc | apply Kd.V_drewN | apply Kd.V_drew)); exact HO1.out) (Kd.N_base ho6) hb); have n1_ := as0 (Kd.N_lower ho6 (below_size (bs HB))); have n2_ := as0 (below_step (bs HB) hb); clear HO1; clear HB; have HO1 := n0_; have HO379 := n1_; have HB := n2_; clear n0_ n1_ n2_; clear hb ho6; obtain ⟨Ao7, co7, eo7⟩ := Kd.N_slice HO379.out; subst eo7) | ((with_reducible refine gate_callee (f := 54) rfl ?_); refine goesM_ (some 15) rfl rfl Try.func54 #[.int .i64 a0, .slice Ao7 y377.length co7] rfl ?_; (with_reducible refine (spec_l06Code.calls k a0 _ _ y377 t380 _ ?side1 ?side2 A3.out).mono ?_); (case side1 => exact cs ((Kd.N_reads' HO379.out).2.2)); (case side2 => exact (Kd.N_reads' HO379.out).2.1); rintro e w' ⟨rfl, ⟨nd, rfl⟩⟩; refine ⟨_, rfl, ?_⟩))
 (try simp only [Act.put, List.setIfInBounds_toArray, List.set_cons_zero, List.set_cons_succ])
 go_cut [22] (fun v22 wc => ∃ (kq : Nat) (x22_3 : Bool), v22 = .bool x22_3 ∧ Aside0 (spec_DiscriminantOf.j0 kq a0 l1 t380 x22_3 = some (r1, r2)) ∧ Aside0 (kq ≤ k) ∧ Aside0 (Kd.V (Kd.int .i64) 2 wc w.heap.size (fun k_ => (P1_ k_ ∨ w.heap.size ≤ k_)) (.slice A1 l1.length c1) l1) ∧ Aside0 (Below w.heap.size w wc))
 case first =>
  have H := HC4.out
  clear HC4
  by_cases c8 : t380 = 0
  ·
   rw [if_pos c8] at H
   have c8b0 : (t380 == 0) = true := beq_iff_eq.mpr c8
   have c8b1 : (t380 != 0) = false := bne_eq_false_iff_eq.mpr c8
   clear c8
   (first | rw [c8b0] | (simp only [i64_w, i32_w]; rw [c8b0]) | skip)
   have H' := as0 H
   clear H
   go_wp2
   go_meet
   case rel => exact ⟨_, (((l1.length : Int) == 1)), ea_, H', ⟨by first | omega | exact Nat.le_refl _⟩, ⟨by (with_reducible repeat (first | apply Kd.V_alloc | apply Kd.V_drewN | apply Kd.V_drew)); exact Kd.V_mono HO1.out (fun _ hk => hk.1)⟩, ⟨bs HB⟩⟩
  ·
   rw [if_neg c8] at H
   have c8b0 : (t380 == 0) = false := beq_eq_false_iff_ne.mpr c8
   have c8b1 : (t380 != 0) = true := bne_iff_ne.mpr c8
   (first | rw [c8b0] | (simp only [i64_w, i32_w]; rw [c8b0]) | skip)
   have H' := as0 H
   clear H
   go_wp2
   go_meet
   case rel => exact ⟨_, (false), ea_, H', ⟨by first | omega | exact Nat.le_refl _⟩, ⟨by (with_reducible repeat (first | apply Kd.V_alloc | apply Kd.V_drewN | apply Kd.V_drew)); exact Kd.V_mono HO1.out (fun _ hk => hk.1)⟩, ⟨bs HB⟩⟩
 case rest =>
  clear HC4
  try clear c1
  try clear c2
  try clear p2
  try clear c5
  try clear c8
  try clear c8b0
  try clear c8b1
  obtain ⟨kq, x22_3, rfl, HA, HJ3, HO_1, HB⟩ := hcut
  cases kq with
  | zero => exact absurd HA.out (by simp [spec_DiscriminantOf.j0])
  | succ kj3 =>
   have H := HA.out
   clear HA
   simp only [spec_DiscriminantOf.j0] at H
   have HC9 := as0 H
   clear H
   go_upto_if 22 with (fail)
   go_cut [6] (fun v6 wc => ∃ (kq : Nat) (x6_8 : Int), v6 = .int .i64 x6_8 ∧ Aside0 (spec_DiscriminantOf.j1 kq a0 l1 x6_8 = some (r1, r2)) ∧ Aside0 (kq ≤ kj3) ∧ Aside0 (Kd.V (Kd.int .i64) 2 wc w.heap.size (fun k_ => (P1_ k_ ∨ w.heap.size ≤ k_)) (.slice A1 l1.length c1) l1) ∧ Aside0 (Below w.heap.size w wc))
   case first =>
    have H := HC9.out
    clear HC9
    by_cases c10 : x22_3 = true
    ·
     subst c10
     have H1 : (spec_DiscriminantOf.j1 kj3 a0 l1 5) = some (r1, r2) := by rw [if_pos rfl] at H; exact H
     clear H
     have H := H1
     clear H1
     have H' := as0 H
     clear H
     go_wp2
     go_meet
     case rel => exact ⟨_, (5), ea_, H', ⟨by have := HJ3.out; first | omega | exact Nat.le_refl _⟩, ⟨by (with_reducible repeat (first | apply Kd.V_alloc | apply Kd.V_drewN | apply Kd.V_drew)); exact HO_1.out⟩, ⟨bs HB⟩⟩
    ·
     replace c10 := Bool.eq_false_iff.mpr c10
     subst c10
     have H1 : (spec_DiscriminantOf.j1 kj3 a0 l1 t380) = some (r1, r2) := by rw [if_neg (show ¬ (false = true) by decide)] at H; exact H
     clear H
     have H := H1
     clear H1
     have H' := as0 H
     clear H
     go_wp2
     go_meet
     case rel => exact ⟨_, (t380), ea_, H', ⟨by have := HJ3.out; first | omega | exact Nat.le_refl _⟩, ⟨by (with_reducible repeat (first | apply Kd.V_alloc | apply Kd.V_drewN | apply Kd.V_drew)); exact HO_1.out⟩, ⟨bs HB⟩⟩
   case rest =>
    clear HC9
    try clear c1
    try clear c2
    try clear p2
    try clear c5
    try clear c8
    try clear c8b0
    try clear c8b1
    try clear c10
    try clear p2
    obtain ⟨kq, x6_8, rfl, HA, HJ8, HO_1, HB⟩ := hcut
    cases kq with
    | zero => exact absurd HA.out (by simp [spec_DiscriminantOf.j1])
    | succ kj8 =>
     have H := HA.out
     clear HA
     simp only [spec_DiscriminantOf.j1] at H
     by_cases c11 : x6_8 = 0
     ·
      rw [if_pos c11] at H
      have c11b0 : (x6_8 == 0) = true := beq_iff_eq.mpr c11
      have c11b1 : (x6_8 != 0) = false := bne_eq_false_iff_eq.mpr c11
      clear c11
      obtain ⟨ji12, hji12⟩ : ∃ j_ : Int, (wrap64 ((l1.length : Int) - 1)) = j_ := ⟨_, rfl⟩
      replace H : (if 0 ≤ (ji12) then (if (ji12 : Int).toNat ≤ 35184372088832 then ((spec_l01Derive.f kj8 a0 l1).bind fun t384 => (spec_DiscriminantOf.l0 kj8 a0 l1 ji12 (List.replicate (ji12 : Int).toNat 0) t384 0)) else (none)) else (none)) = some (r1, r2) := by first | (rw [hji12] at H; exact H) | (simp only [hji12] at H ⊢; exact H)
      have hji12w : (IntKind.i64.wrap ((l1.length : Int) - 1)) = ji12 := (i64_w _).trans hji12
      by_cases c13 : 0 ≤ (ji12)
      ·
       rw [if_pos c13] at H
       have c13b0 := eq_true c13
       have c13b1 : decide (0 ≤ (ji12)) = true := decide_eq_true c13
       clear c13
       by_cases c14 : (ji12 : Int).toNat ≤ 35184372088832
       ·
        rw [if_pos c14] at H
        have c14b0 := eq_true c14
        have c14b1 : decide ((ji12 : Int).toNat ≤ 35184372088832) = true := decide_eq_true c14
        clear c14
        obtain ⟨y381, hy381⟩ : ∃ y_ : List Int, y_ = (List.replicate (ji12 : Int).toNat 0) := ⟨_, rfl⟩
        replace H : ((spec_l01Derive.f kj8 a0 l1).bind fun t384 => (spec_DiscriminantOf.l0 kj8 a0 l1 ji12 y381 t384 0)) = some (r1, r2) := by first | (rw [hy381]; with_reducible exact H) | (have H2_ := (Option.bind_some _ _).symm.trans H; rw [hy381]; with_reducible exact H2_) | (have H2_ := (Option.bind_some _ _).symm.trans H; with_reducible exact H2_) | with_reducible exact H | (rw [hy381]; exact H) | exact H
        have Ny381 := as0 hy381
        clear hy381
        replace H := Option.bind_eq_some_iff.mp H
        obtain ⟨t384, A150, H⟩ := H
        have A15 := as0 A150
        clear A150
        have H' := as0 H
        clear H
        go_wp2_with (first | ((with_reducible refine gate_dst (N := 30) rfl ?_); (try (refine gate_guard (by rfl) ?_; dsimp only)); refine Kd.R_make (Kd.int .i64) _ 2 rfl (N := 30) rfl 22 _ _ rfl ji12 rfl rfl Try.underlying22 (.int .i64 0) 8 info2 rfl (by decide) (by omega) 0 (ok := fun _ => True) (okp := fun _ => True) rfl (fun _ hk => hk) trivial (oa_) (Nat.le_trans (Nat.mul_le_mul_right _ (oa_ : ji12.toNat ≤ 35184372088832)) (by omega)) (Below.refl _ _) (Nat.le_refl _) ?_; intro v382 w16 ho17 hb hg_ hnew_; clear hg_ hnew_; (first | rw [← Ny381.out] at ho17 | (simp only [Int.reduceToNat] at ho17; rw [← Ny381.out] at ho17)); have n0_ := as0 (Kd.V_elder' (by (with_reducible repeat (first | apply Kd.V_alloc | apply Kd.V_drewN | apply Kd.V_drew)); exact HO_1.out) (Kd.R_base ho17) hb); have n1_ := as0 (Kd.R_lower (Kd.R_newM (M := fun k_ => (w.heap.size ≤ k_)) ho17 (below_size (bs HB)) (fun k_ h_ => h_)) (below_size (bs HB))); have n2_ := as0 (below_step (bs HB) hb); clear HO_1; clear HB; have HO_1 := n0_; have HO383 := n1_; have HB := n2_; clear n0_ n1_ n2_; clear hb ho17) | ((with_reducible refine gate_callee (f := 59) rfl ?_); refine goesM_ (some 33) rfl rfl Try.func59 #[.int .i64 a0, .slice A1 l1.length c1] rfl ?_; (with_reducible refine (spec_l01Derive.calls kj8 a0 _ _ l1 t384 _ ?side1 ?side2 A15.out).mono ?_); (case side1 => exact cs ((Kd.V_reads' HO_1.out).2.2)); (case side2 => exact (Kd.V_reads' HO_1.out).2.1); rintro e w18 ⟨v385, rfl, ho0, hb⟩; refine ⟨_, rfl, ?_⟩; have n0_ := as0 (Kd.V_elder' (by (with_reducible repeat (first | apply Kd.V_alloc | apply Kd.V_drewN | apply Kd.V_drew)); exact HO_1.out) (Kd.R_base ho0) hb); have n1_ := as0 (Kd.R_elder' (rs HO383) (Kd.R_base ho0) hb); have n2_ := as0 (Kd.R_lower (Kd.R_new' (Kd.R_newM (M := fun k_ => (w.heap.size ≤ k_)) ho0 (below_size (bs HB)) (fun k_ h_ => h_)) (Kd.R_lt (rs HO383))) (below_size (bs HB))); have n3_ := as0 (below_step (bs HB) hb); clear HO_1; clear HO383; clear HB; have HO_1 := n0_; have HO383 := n1_; have HO386 := n2_; have HB := n3_; clear n0_ n1_ n2_ n3_; (try clear hb); (try clear hb2); (try clear hk); (try clear hi); (try clear ho0)))
        go_loopg [10] kj8 (fun kq v10 w' => ∃ (x8_3 : List Int) (x10_3 : Int), v10 = .int .i64 x10_3 ∧ Aside0 (spec_DiscriminantOf.l0 kq a0 l1 ji12 x8_3 t384 x10_3 = some (r1, r2)) ∧ Aside0 (kq ≤ kj8) ∧ Aside0 (Kd.V (Kd.int .i64) 2 w' w.heap.size (fun k_ => (P1_ k_ ∨ w.heap.size ≤ k_) ∧ some k_ ≠ (v382 : Value).ownBlock ∧ some k_ ≠ (v385 : Value).ownBlock) (.slice A1 l1.length c1) l1) ∧ Aside0 (Kd.R (Kd.int .i64) 2 w' w.heap.size (fun k_ => (w.heap.size ≤ k_) ∧ some k_ ≠ (v385 : Value).ownBlock) v382 x8_3) ∧ Aside0 (Kd.R (Kd.int .i64) 2 w' w.heap.size (fun k_ => (w.heap.size ≤ k_) ∧ some k_ ≠ (v382 : Value).ownBlock) v385 t384) ∧ Aside0 (Below w.heap.size w w'))
        case atStart => exact ⟨(y381), (0), ea_, H', ⟨Nat.le_refl _⟩, ⟨by (with_reducible repeat (first | apply Kd.V_alloc | apply Kd.V_drewN | apply Kd.V_drew)); exact Kd.V_mono HO_1.out (fun _ hk => ⟨hk.1.1, ⟨hk.1.2, hk.2⟩⟩)⟩, ⟨by (with_reducible repeat (first | apply Kd.R_alloc | apply Kd.R_drewN | apply Kd.R_drew)); exact Kd.R_mono HO383.out (fun _ hk => ⟨hk.1.1, hk.2⟩)⟩, ⟨by (with_reducible repeat (first | apply Kd.R_alloc | apply Kd.R_drewN | apply Kd.R_drew)); exact Kd.R_mono HO386.out (fun _ hk => ⟨hk.1.1, hk.2⟩)⟩, ⟨bs HB⟩⟩
        case round =>
         clear H'
         try clear c1
         try clear c2
         try clear p2
         try clear c5
         try clear p6
         try clear c8
         try clear c8b0
         try clear c8b1
         try clear c10
         try clear c11
         try clear c11b0
         try clear c11b1
         try clear c13
         try clear c13b0
         try clear c13b1
         try clear c14
         try clear c14b0
         try clear c14b1
         try clear p2
         obtain ⟨x8_3, x10_3, rfl, HA, HK3, HO_1, HO_8, HO_9, HB⟩ := hrel
         cases gk with
         | zero => exact absurd HA.out (by simp [spec_DiscriminantOf.l0])
         | succ k3 =>
          have H := HA.out
          clear HA
          simp only [spec_DiscriminantOf.l0] at H
          by_cases c19 : x10_3 < (t384.length : Int)
          ·
           rw [if_pos c19] at H
           have c19b0 : decide (x10_3 < (t384.length : Int)) = true := decide_eq_true c19
           clear c19
           by_cases c20 : 0 ≤ x10_3
           ·
            rw [if_pos c20] at H
            have c20b0 : decide (0 ≤ x10_3) = true := decide_eq_true c20
            clear c20
            by_cases c21 : x10_3 < (x8_3.length : Int)
            ·
             rw [if_pos c21] at H
             have c21b0 : decide (x10_3 < (x8_3.length : Int)) = true := decide_eq_true c21
             clear c21
             obtain ⟨y388, hy388⟩ : ∃ y_ : List Int, y_ = (x8_3.set (x10_3 : Int).toNat (rd t384 x10_3)) := ⟨_, rfl⟩
             replace H : (spec_DiscriminantOf.l0 k3 a0 l1 ji12 y388 t384 (wrap64 (x10_3 + 1))) = some (r1, r2) := by first | (rw [hy388]; with_reducible exact H) | (have H2_ := (Option.bind_some _ _).symm.trans H; rw [hy388]; with_reducible exact H2_) | (have H2_ := (Option.bind_some _ _).symm.trans H; with_reducible exact H2_) | with_reducible exact H | (rw [hy388]; exact H) | exact H
             have Ny388 := as0 hy388
             clear hy388
             have H' := as0 H
             clear H
             obtain ⟨Ao23, co23, eo23⟩ := Kd.R_slice HO_9.out
             subst eo23
             have p387 : 0 ≤ (x10_3 : Int) := oa_
             have q387 : x10_3 < (t384.length : Int) := oa_
             obtain ⟨ad387, e387, hx387_0⟩ := Kd.at_int (Kd.R_reads' HO_9.out).2.2 x10_3 p387 q387
             cases e387
             replace p387 := eq_true p387
             replace q387 := eq_true q387
             have p22 : 0 ≤ (x10_3 : Int) := oa_
             have q22 : (x10_3 : Int) < ((x8_3.length : Int) : Int) := oa_
             obtain ⟨go22, co22, eo22, gb22, gl22, cl22, HG22⟩ := Kd.R_form HO_8.out (by omega)
             (first | cases eo22 | (injection eo22 with ea_ en_ ec_; (first | subst ea_ | (injection ea_ with ea_; subst ea_)); subst ec_; clear en_))
             have GB22 := as0 gb22
             have GG22 := as0 HG22
             clear gb22 gl22 HG22
             obtain ⟨hx22_0, hf22_0⟩ := Kd.R_celln 0 HO_8.out (x10_3 : Int) p22 q22
             replace p22 := eq_true p22
             replace q22 := eq_true q22
             have HP24 := Kd.R_putg HO_8.out (x10_3 : Int) (rd t384 x10_3)
             go_wp2_with (first | ((with_reducible refine gate_store (t := 2) (p := 46) rfl ?_); refine store_event (t := 2) (p := 46) (v := ?vo_w25) (w1 := (wr.setCell ⟨go22, (x10_3 : Int).toNat, none⟩ (.int .i64 (rd t384 x10_3)))) ?hg ?ho ?hn ?hr ?_; (case ho => rfl); (case hg => rfl); (case hn => rfl); (case hr => first | (go_simp; done) | (go_simp; rfl)); intro w25 hw; have hg : wr.grownBy w25 (some go22) := (by rw [hw]; exact HP24.2); have hp_ : Kd.R (Kd.int .i64) 2 w25 w.heap.size (fun k_ => (w.heap.size ≤ k_) ∧ some k_ ≠ (.slice (some ad387) t384.length co23 : Value).ownBlock) (.slice (some ⟨go22, 0, none⟩) x8_3.length co22) y388 := (by rw [hw, Ny388.out]; exact HP24.1); clear HP24; have n0_ := as0 (Kd.V_afterv (v := (.slice (some ⟨go22, 0, none⟩) x8_3.length co22)) (v1 := (.slice (some ⟨go22, 0, none⟩) x8_3.length co22)) (ok := (fun k_ => (P1_ k_ ∨ w.heap.size ≤ k_) ∧ some k_ ≠ (.slice (some ad387) t384.length co23 : Value).ownBlock)) (by (with_reducible repeat (first | apply Kd.V_alloc | apply Kd.V_drewN | apply Kd.V_drew)); exact Kd.V_mono HO_1.out (fun _ hk => ⟨⟨hk.1, hk.2.2⟩, hk.2.1⟩)) hg (.inl rfl)); have n1_ := as0 (hp_); have n2_ := as0 (Kd.R_after (v := (.slice (some ⟨go22, 0, none⟩) x8_3.length co22)) (v1 := (.slice (some ⟨go22, 0, none⟩) x8_3.length co22)) (ok := (fun k_ => (w.heap.size ≤ k_))) (rs HO_9) hg (.inl rfl)); have n3_ := as0 ((by rw [hw]; exact below_set (HB.out) GB22.out : Below w.heap.size w w25)); clear HO_1; clear HO_8; clear HO_9; clear HB; have HO_1 := n0_; have HO_8 := n1_; have HO_9 := n2_; have HB := n3_; clear n0_ n1_ n2_ n3_; clear hg hw hp_))
             go_roundg k3
             case measure => have := HJ3.out; have := HJ8.out; have := HK3.out; omega
             case rel => exact ⟨(y388), (wrap64 (x10_3 + 1)), ea_, H', ⟨by have := HJ3.out; have := HJ8.out; have := HK3.out; omega⟩, ⟨by (with_reducible repeat (first | apply Kd.V_alloc | apply Kd.V_drewN | apply Kd.V_drew)); exact Kd.V_mono HO_1.out (fun _ hk => ⟨hk.1.1, ⟨hk.2, hk.1.2⟩⟩)⟩, ⟨rs HO_8⟩, ⟨rs HO_9⟩, ⟨bs HB⟩⟩
            ·
             rw [if_neg c21] at H
             exact absurd H (by simp)
           ·
            rw [if_neg c20] at H
            exact absurd H (by simp)
          ·
           rw [if_neg c19] at H
           have c19b0 : decide (x10_3 < (t384.length : Int)) = false := decide_eq_false c19
           clear c19
           replace H := Option.bind_eq_some_iff.mp H
           obtain ⟨t389, A260, H⟩ := H
           have A26 := as0 A260
           clear A260
           by_cases c27 : 0 ≤ ji12
           ·
            rw [if_pos c27] at H
            have c27b0 : decide (0 ≤ ji12) = true := decide_eq_true c27
            clear c27
            by_cases c28 : ji12 < (l1.length : Int)
            ·
             rw [if_pos c28] at H
             have c28b0 : decide (ji12 < (l1.length : Int)) = true := decide_eq_true c28
             clear c28
             replace H := Option.bind_eq_some_iff.mp H
             obtain ⟨t391, A290, H⟩ := H
             have A29 := as0 A290
             clear A290
             by_cases c30 : a0 = 0
             ·
              rw [if_pos c30] at H
              exact absurd H (by simp)
             ·
              rw [if_neg c30] at H
              have c30b0 : (a0 == 0) = false := beq_eq_false_iff_ne.mpr c30
              have c30b1 : (a0 != 0) = true := bne_iff_ne.mpr c30
              by_cases c31 : (Int.tmod (wrap64 (Int.tdiv (wrap64 (ji12 * (wrap64 (ji12 - 1)))) 2)) 2) = 1
              ·
               rw [if_pos c31] at H
               have c31b0 : ((Int.tmod (wrap64 (Int.tdiv (wrap64 (ji12 * (wrap64 (ji12 - 1)))) 2)) 2) == 1) = true := beq_iff_eq.mpr c31
               have c31b1 : ((Int.tmod (wrap64 (Int.tdiv (wrap64 (ji12 * (wrap64 (ji12 - 1)))) 2)) 2) != 1) = false := bne_eq_false_iff_eq.mpr c31
               clear c31
               replace H := Option.bind_eq_some_iff.mp H
               obtain ⟨t392, A320, H⟩ := H
               have A32 := as0 A320
               clear A320
               simp only [Option.some.injEq, Prod.mk.injEq] at H
               obtain ⟨rfl, rfl⟩ := H
               obtain ⟨Ao33, co33, eo33⟩ := Kd.R_slice HO_9.out
               subst eo33
               try go_wp2
               have n0_ := as0 (Kd.V_drew HO_1.out)
               have n1_ := as0 (Kd.R_drew HO_8.out)
               have n2_ := as0 (Kd.R_drew HO_9.out)
               have n3_ := as0 (below_drew1 HB.out)
               clear HO_1
               clear HO_8
               clear HO_9
               clear HB
               have HO_1 := n0_
               have HO_8 := n1_
               have HO_9 := n2_
               have HB := n3_
               clear n0_ n1_ n2_ n3_
               have p390 : 0 ≤ (ji12 : Int) := oa_
               have q390 : ji12 < (l1.length : Int) := oa_
               obtain ⟨ad390, e390, hx390_0⟩ := Kd.at_int (Kd.V_reads' HO_1.out).2.2 ji12 p390 q390
               cases e390
               replace p390 := eq_true p390
               replace q390 := eq_true q390
               obtain ⟨Ao35, co35, eo35⟩ := Kd.R_slice HO_8.out
               (first | subst eo35 | (injection eo35 with f1_ f2_ f3_; have f4_ := f1_.symm; have f5_ := f3_.symm; clear f1_ f2_ f3_; subst f4_; subst f5_))
               refine start_ (n := 14) (S := fun w' => w'.cell? (ad390.add (ji12).toNat) = some (.int .i64 (rd l1 ji12))) (ds := []) #[false, false, false, false, false, false, false, false, false, false, false, false, false, false] (by kernel_rfl) rfl rfl (hx390_0) (fun hHeld => ?_); refine with_tabW spec_DiscriminantOf.tab13 spec_DiscriminantOf.bits13 (fun HT_ HW_ => ?_)
               generalize wr.drew = w34 at HO_1 HO_8 HO_9 HB hx390_0 hHeld ⊢
               refine pm_ HT_ (i := 0) (N := some 47) ?_
               refine pm_ HT_ (i := 1) (N := some 48) ?_
               refine pm_ HT_ (i := 2) (N := some 49) ?_
               refine pm_ HT_ (i := 4) (N := some 51) ?_
               refine pm_ HT_ (i := 5) (N := some 52) ?_
               refine pm_ HT_ (i := 6) (N := some 53) ?_
               refine pm_ HT_ (i := 7) (N := some 54) ?_
               refine pm_ HT_ (i := 11) (N := some 58) ?_
               refine take_ (i := 8) (N := some 55) (v := ?_) (a' := ?_) #[true, true, true, false, true, true, true, true, true, false, false, true, false, false] rfl rfl (take_ofW HT_.out HW_.out (by kernel_rfl)) (fun _ _ _ h => h) (Or.inl ⟨by rfl, ?_⟩) hHeld ?_ ?_
               rotate_left
               ·
                intro w' s0
                go_simp
                with_reducible rfl
               rotate_left
               ·
                simp only [Act.put, List.setIfInBounds_toArray, List.set_cons_zero, List.set_cons_succ, i64_w, i32_w]
                rfl
               refine one_ (i := 3) (N := some 50) #[true, true, true, true, true, true, true, true, true, false, false, true, false, false] rfl rfl (one_of HT_.out (by kernel_rfl)) (by decide) (fun K hK => ?_)
               refine goes_ Try.func55 (by kernel_rfl) rfl #[.int .i64 a0, .slice (some ad390) l1.length c1, .slice Ao35 x8_3.length co35] (by rfl) rfl rfl (by (try simp only [List.map_toArray, List.map_cons, List.map_nil]); first | done | rfl | (simp only [List.length_drop, List.length_take]; rfl)) ?_
               with_reducible refine (spec_l06Sylvester.calls k3 a0 _ _ l1 _ _ x8_3 t389 _ ?side1 ?side2 ?side3 ?side4 A26.out).mono ?_
               (case side1 => exact cs ((Kd.V_reads' HO_1.out).2.2))
               (case side2 => exact (Kd.V_reads' HO_1.out).2.1)
               (case side3 => exact cs ((Kd.R_reads' HO_8.out).2.2))
               (case side4 => exact (Kd.R_reads' HO_8.out).2.1)
               rintro e w36 ⟨rfl, hb⟩
               have HS0_ := (hb.cell (World.block_lt_of_cell? _ _ (hHeld))).trans (hHeld)
               refine ⟨_, rfl, ?_⟩
               have n0_ := as0 (Kd.V_below (by (with_reducible repeat (first | apply Kd.V_alloc | apply Kd.V_drewN | apply Kd.V_drew)); exact HO_1.out) hb)
               have n1_ := as0 (Kd.R_below (rs HO_8) hb)
               have n2_ := as0 (Kd.R_below (rs HO_9) hb)
               have n3_ := as0 (below_step (bs HB) hb)
               clear HO_1
               clear HO_8
               clear HO_9
               clear HB
               have HO_1 := n0_
               have HO_8 := n1_
               have HO_9 := n2_
               have HB := n3_
               clear n0_ n1_ n2_ n3_
               (try clear hb)
               (try clear hb2)
               (try clear hk)
               (try clear hi)
               refine hK.out _ _ (HS0_) (fun hHeld => ?_)
               clear hK K
               refine nm_ (some 50) ?_
               refine one_ (i := 9) (N := some 56) #[true, true, true, true, true, true, true, true, true, true, false, true, false, false] rfl rfl (one_of HT_.out (by kernel_rfl)) (by decide) (fun K hK => ?_)
               refine goes_ Try.func60 (by kernel_rfl) rfl #[.int .i64 a0, .int .i64 (rd l1 ji12)] (by rfl) rfl rfl (by (try simp only [List.map_toArray, List.map_cons, List.map_nil]); first | done | (simp only [hji12]; rfl) | rfl | (simp only [List.length_drop, List.length_take]; rfl)) ?_
               with_reducible refine (spec_l01Inverse.calls k3 a0 (rd l1 ji12) t391 _ A29.out).mono ?_
               rintro e w' ⟨rfl, ⟨nd, rfl⟩⟩
               refine ⟨_, rfl, ?_⟩
               refine hK.out _ _ (hHeld) (fun hHeld => ?_)
               clear hK K
               refine nm_ (some 56) ?_
               refine pm_ HT_ (i := 10) (N := some 57) ?_
               refine pm_ HT_ (i := 12) (N := some 59) ?_
               refine pm_ HT_ (i := 13) (N := some 11) ?_
               refine done_ (done_of HT_.out (by kernel_rfl)) ?_
               try go_wp2_with (first | ((with_reducible refine gate_callee (f := 61) rfl ?_); refine goesM_ (some 70) rfl rfl Try.func61 #[.int .i64 a0, .int .i64 (wrap64 (-(Int.tmod (wrap64 (t389 * t391)) a0)))] rfl ?_; (with_reducible refine (spec_l01Mod.calls a0 (wrap64 (-(Int.tmod (wrap64 (t389 * t391)) a0))) t392 _ A32.out).mono ?_); rintro e w' ⟨rfl, ⟨nd, rfl⟩⟩; refine ⟨_, rfl, ?_⟩))
               go_ret2
               exact ⟨by first | rfl | (simp [errW_none, errW_some] <;> rfl) | (simp only [← hji12]; first | rfl | (simp [errW_none, errW_some] <;> rfl)) | (simp [*, errW_none, errW_some] <;> rfl), bs HB⟩
              ·
               rw [if_neg c31] at H
               have c31b0 : ((Int.tmod (wrap64 (Int.tdiv (wrap64 (ji12 * (wrap64 (ji12 - 1)))) 2)) 2) == 1) = false := beq_eq_false_iff_ne.mpr c31
               have c31b1 : ((Int.tmod (wrap64 (Int.tdiv (wrap64 (ji12 * (wrap64 (ji12 - 1)))) 2)) 2) != 1) = true := bne_iff_ne.mpr c31
               simp only [Option.some.injEq, Prod.mk.injEq] at H
               obtain ⟨rfl, rfl⟩ := H
               obtain ⟨Ao37, co37, eo37⟩ := Kd.R_slice HO_9.out
               subst eo37
               try go_wp2
               have n0_ := as0 (Kd.V_drew HO_1.out)
               have n1_ := as0 (Kd.R_drew HO_8.out)
               have n2_ := as0 (Kd.R_drew HO_9.out)
               have n3_ := as0 (below_drew1 HB.out)
               clear HO_1
               clear HO_8
               clear HO_9
               clear HB
               have HO_1 := n0_
               have HO_8 := n1_
               have HO_9 := n2_
               have HB := n3_
               clear n0_ n1_ n2_ n3_
               have p390 : 0 ≤ (ji12 : Int) := oa_
               have q390 : ji12 < (l1.length : Int) := oa_
               obtain ⟨ad390, e390, hx390_0⟩ := Kd.at_int (Kd.V_reads' HO_1.out).2.2 ji12 p390 q390
               cases e390
               replace p390 := eq_true p390
               replace q390 := eq_true q390
               obtain ⟨Ao39, co39, eo39⟩ := Kd.R_slice HO_8.out
               (first | subst eo39 | (injection eo39 with f1_ f2_ f3_; have f4_ := f1_.symm; have f5_ := f3_.symm; clear f1_ f2_ f3_; subst f4_; subst f5_))
               refine start_ (n := 14) (S := fun w' => w'.cell? (ad390.add (ji12).toNat) = some (.int .i64 (rd l1 ji12))) (ds := []) #[false, false, false, false, false, false, false, false, false, false, false, false, false, false] (by kernel_rfl) rfl rfl (hx390_0) (fun hHeld => ?_); refine with_tabW spec_DiscriminantOf.tab13 spec_DiscriminantOf.bits13 (fun HT_ HW_ => ?_)
               generalize wr.drew = w38 at HO_1 HO_8 HO_9 HB hx390_0 hHeld ⊢
               refine pm_ HT_ (i := 0) (N := some 47) ?_
               refine pm_ HT_ (i := 1) (N := some 48) ?_
               refine pm_ HT_ (i := 2) (N := some 49) ?_
               refine pm_ HT_ (i := 4) (N := some 51) ?_
               refine pm_ HT_ (i := 5) (N := some 52) ?_
               refine pm_ HT_ (i := 6) (N := some 53) ?_
               refine pm_ HT_ (i := 7) (N := some 54) ?_
               refine pm_ HT_ (i := 11) (N := some 58) ?_
               refine take_ (i := 8) (N := some 55) (v := ?_) (a' := ?_) #[true, true, true, false, true, true, true, true, true, false, false, true, false, false] rfl rfl (take_ofW HT_.out HW_.out (by kernel_rfl)) (fun _ _ _ h => h) (Or.inl ⟨by rfl, ?_⟩) hHeld ?_ ?_
               rotate_left
               ·
                intro w' s0
                go_simp
                with_reducible rfl
               rotate_left
               ·
                simp only [Act.put, List.setIfInBounds_toArray, List.set_cons_zero, List.set_cons_succ, i64_w, i32_w]
                rfl
               refine one_ (i := 3) (N := some 50) #[true, true, true, true, true, true, true, true, true, false, false, true, false, false] rfl rfl (one_of HT_.out (by kernel_rfl)) (by decide) (fun K hK => ?_)
               refine goes_ Try.func55 (by kernel_rfl) rfl #[.int .i64 a0, .slice (some ad390) l1.length c1, .slice Ao39 x8_3.length co39] (by rfl) rfl rfl (by (try simp only [List.map_toArray, List.map_cons, List.map_nil]); first | done | rfl | (simp only [List.length_drop, List.length_take]; rfl)) ?_
               with_reducible refine (spec_l06Sylvester.calls k3 a0 _ _ l1 _ _ x8_3 t389 _ ?side1 ?side2 ?side3 ?side4 A26.out).mono ?_
               (case side1 => exact cs ((Kd.V_reads' HO_1.out).2.2))
               (case side2 => exact (Kd.V_reads' HO_1.out).2.1)
               (case side3 => exact cs ((Kd.R_reads' HO_8.out).2.2))
               (case side4 => exact (Kd.R_reads' HO_8.out).2.1)
               rintro e w40 ⟨rfl, hb⟩
               have HS0_ := (hb.cell (World.block_lt_of_cell? _ _ (hHeld))).trans (hHeld)
               refine ⟨_, rfl, ?_⟩
               have n0_ := as0 (Kd.V_below (by (with_reducible repeat (first | apply Kd.V_alloc | apply Kd.V_drewN | apply Kd.V_drew)); exact HO_1.out) hb)
               have n1_ := as0 (Kd.R_below (rs HO_8) hb)
               have n2_ := as0 (Kd.R_below (rs HO_9) hb)
               have n3_ := as0 (below_step (bs HB) hb)
               clear HO_1
               clear HO_8
               clear HO_9
               clear HB
               have HO_1 := n0_
               have HO_8 := n1_
               have HO_9 := n2_
               have HB := n3_
               clear n0_ n1_ n2_ n3_
               (try clear hb)
               (try clear hb2)
               (try clear hk)
               (try clear hi)
               refine hK.out _ _ (HS0_) (fun hHeld => ?_)
               clear hK K
               refine nm_ (some 50) ?_
               refine one_ (i := 9) (N := some 56) #[true, true, true, true, true, true, true, true, true, true, false, true, false, false] rfl rfl (one_of HT_.out (by kernel_rfl)) (by decide) (fun K hK => ?_)
               refine goes_ Try.func60 (by kernel_rfl) rfl #[.int .i64 a0, .int .i64 (rd l1 ji12)] (by rfl) rfl rfl (by (try simp only [List.map_toArray, List.map_cons, List.map_nil]); first | done | (simp only [hji12]; rfl) | rfl | (simp only [List.length_drop, List.length_take]; rfl)) ?_
               with_reducible refine (spec_l01Inverse.calls k3 a0 (rd l1 ji12) t391 _ A29.out).mono ?_
               rintro e w' ⟨rfl, ⟨nd, rfl⟩⟩
               refine ⟨_, rfl, ?_⟩
               refine hK.out _ _ (hHeld) (fun hHeld => ?_)
               clear hK K
               refine nm_ (some 56) ?_
               refine pm_ HT_ (i := 10) (N := some 57) ?_
               refine pm_ HT_ (i := 12) (N := some 59) ?_
               refine pm_ HT_ (i := 13) (N := some 11) ?_
               refine done_ (done_of HT_.out (by kernel_rfl)) ?_
               try go_wp2
               go_ret2
               exact ⟨by first | rfl | (simp [errW_none, errW_some] <;> rfl) | (simp only [← hji12]; first | rfl | (simp [errW_none, errW_some] <;> rfl)) | (simp [*, errW_none, errW_some] <;> rfl), bs HB⟩
            ·
             rw [if_neg c28] at H
             exact absurd H (by simp)
           ·
            rw [if_neg c27] at H
            exact absurd H (by simp)
       ·
        rw [if_neg c14] at H
        exact absurd H (by simp)
      ·
       rw [if_neg c13] at H
       exact absurd H (by simp)
     ·
      rw [if_neg c11] at H
      have c11b0 : (x6_8 == 0) = false := beq_eq_false_iff_ne.mpr c11
      have c11b1 : (x6_8 != 0) = true := bne_iff_ne.mpr c11
      simp only [Option.some.injEq, Prod.mk.injEq] at H
      obtain ⟨rfl, rfl⟩ := H
      go_wp2
      go_ret2
      exact ⟨er_, bs HB⟩
end
def IsS99 (w0 W : World) (g : Nat) (f0 : List Int) (f1 : Int) (f2 : Int) : Prop := ∃ A0 c0, W.heap[g]? = some (.cells #[.slice A0 f0.length c0, .int .i64 f1, .int .u64 f2] 99 (0, 0)) ∧ w0.heap.size ≤ g ∧ Kd.C (Kd.int .u8) w0 A0 f0.length f0
theorem IsS99.grown {w0 W : World} {g : Nat} {f0 : List Int} {f1 : Int} {f2 : Int} {W1 : World} {row : Option Nat} (h : IsS99 w0 W g f0 f1 f2) (hw : W.grownBy W1 row) (hne : some g ≠ row) : IsS99 w0 W1 g f0 f1 f2 := by
 obtain ⟨A0, c0, hb, hg, hr0⟩ := h
 exact ⟨A0, c0, blk_grown hb hw hne, hg, hr0⟩
theorem IsS99.kept {w0 W : World} {g : Nat} {f0 : List Int} {f1 : Int} {f2 : Int} {W1 : World} {S : Nat → Prop} (h : IsS99 w0 W g f0 f1 f2) (hk : Kept W W1 S) (hne : ¬ S g) : IsS99 w0 W1 g f0 f1 f2 := by
 obtain ⟨A0, c0, hb, hg, hr0⟩ := h
 exact ⟨A0, c0, blk_kept hb hk hne, hg, hr0⟩
theorem IsS99.below {w0 W : World} {g : Nat} {f0 : List Int} {f1 : Int} {f2 : Int} {W1 : World} (h : IsS99 w0 W g f0 f1 f2) (hw : Below W.heap.size W W1) : IsS99 w0 W1 g f0 f1 f2 := h.grown (grown_of_below hw none) (by simp)
theorem IsS99.alloc {w0 W : World} {g : Nat} {f0 : List Int} {f1 : Int} {f2 : Int} (h : IsS99 w0 W g f0 f1 f2) (o : Obj) : IsS99 w0 (W.alloc o) g f0 f1 f2 := h.below (below_alloc (Below.refl _ _) o)
theorem IsS99.drewN {w0 W : World} {g : Nat} {f0 : List Int} {f1 : Int} {f2 : Int} (h : IsS99 w0 W g f0 f1 f2) (m : Nat) : IsS99 w0 (W.drewN m) g f0 f1 f2 := h
theorem IsS99.drew {w0 W : World} {g : Nat} {f0 : List Int} {f1 : Int} {f2 : Int} (h : IsS99 w0 W g f0 f1 f2) : IsS99 w0 W.drew g f0 f1 f2 := h
theorem IsS99.at_ {w0 W : World} {g : Nat} {f0 : List Int} {f1 : Int} {f2 : Int} {w' : World} {m : Nat} (hq : W.drewN m = w') (h : IsS99 w0 W g f0 f1 f2) : IsS99 w0 w' g f0 f1 f2 := by subst hq; exact IsS99.drewN h m
theorem IsS99.apart {w0 W : World} {g : Nat} {f0 : List Int} {f1 : Int} {f2 : Int} {α : Type} {d : Kd α} {e : Nat} {base : Nat} {ok : Nat → Prop} {v : Value} {xs : List α} (h : IsS99 w0 W g f0 f1 f2) (ho : d.R e W base ok v xs) (ht : ∀ q, q ∈ e :: d.E → q ≠ 99) : d.R e W base (fun k => ok k ∧ k ≠ g) v xs := by
 obtain ⟨A0, c0, hb, hg, hr0⟩ := h
 exact Kd.R_types ho hb ht
theorem IsS99.own_ne {w0 W : World} {g : Nat} {f0 : List Int} {f1 : Int} {f2 : Int} {α : Type} {d : Kd α} {e : Nat} {base : Nat} {ok : Nat → Prop} {v : Value} {xs : List α} (h : IsS99 w0 W g f0 f1 f2) (ho : d.R e W base ok v xs) (ht : e ≠ 99) : some g ≠ v.ownBlock := by
 obtain ⟨A0, c0, hb, hg, hr0⟩ := h
 exact Kd.R_ne ho hb ht
theorem IsS99.ge {w0 W : World} {g : Nat} {f0 : List Int} {f1 : Int} {f2 : Int} (h : IsS99 w0 W g f0 f1 f2) : w0.heap.size ≤ g := by
 obtain ⟨A0, c0, hb, hg, hr0⟩ := h
 exact hg
theorem cellS99_0 {W : World} {g : Nat} {A0 : Option Addr} {c0 : Nat} {f0 : List Int} {f1 : Int} {f2 : Int} (h : W.heap[g]? = some (.cells #[.slice A0 f0.length c0, .int .i64 f1, .int .u64 f2] 99 (0, 0))) : W.cell? ⟨g, 0, none⟩ = some (.slice A0 f0.length c0) := (blk_cell h 0).trans rfl
theorem cellS99_1 {W : World} {g : Nat} {A0 : Option Addr} {c0 : Nat} {f0 : List Int} {f1 : Int} {f2 : Int} (h : W.heap[g]? = some (.cells #[.slice A0 f0.length c0, .int .i64 f1, .int .u64 f2] 99 (0, 0))) : W.cell? ⟨g, 1, none⟩ = some (.int .i64 f1) := (blk_cell h 1).trans rfl
theorem IsS99.set_1 {w0 W : World} {g : Nat} {f0 : List Int} {f1 : Int} {f2 : Int} (h : IsS99 w0 W g f0 f1 f2) (x : Int) : IsS99 w0 (W.setCell ⟨g, 1, none⟩ (.int .i64 x)) g f0 x f2 := by
 obtain ⟨A0, c0, hb, hg, hr0⟩ := h
 exact ⟨A0, c0, by simpa using blk_set hb 1 (.int .i64 x), hg, hr0⟩
theorem cellS99_2 {W : World} {g : Nat} {A0 : Option Addr} {c0 : Nat} {f0 : List Int} {f1 : Int} {f2 : Int} (h : W.heap[g]? = some (.cells #[.slice A0 f0.length c0, .int .i64 f1, .int .u64 f2] 99 (0, 0))) : W.cell? ⟨g, 2, none⟩ = some (.int .u64 f2) := (blk_cell h 2).trans rfl
theorem IsS99.set_2 {w0 W : World} {g : Nat} {f0 : List Int} {f1 : Int} {f2 : Int} (h : IsS99 w0 W g f0 f1 f2) (x : Int) : IsS99 w0 (W.setCell ⟨g, 2, none⟩ (.int .u64 x)) g f0 f1 x := by
 obtain ⟨A0, c0, hb, hg, hr0⟩ := h
 exact ⟨A0, c0, by simpa using blk_set hb 2 (.int .u64 x), hg, hr0⟩
theorem IsS99.new (w0 W : World) (A0 : Option Addr) (c0 : Nat) (f0 : List Int) (f1 : Int) (f2 : Int) (hB : Below w0.heap.size w0 W) (hr0 : Kd.C (Kd.int .u8) w0 A0 f0.length f0) : IsS99 w0 (W.alloc (.cells #[.slice A0 f0.length c0, .int .i64 f1, .int .u64 f2] 99)) W.heap.size f0 f1 f2 := ⟨A0, c0, by simpa using heap_alloc_new W _, hB.size, hr0⟩
def spec_l01From.l0 : Nat → List Int → Int → List Int → Int → Int → Option (List Int × Int × Int)
 | 0, _, _, _, _, _ => none
 | k + 1, x0, x4, x502000, x502001, x502002 => if x4 < (x0.length : Int) then (if x4 < 4096 then (if 0 ≤ x4 then (spec_l01From.l0 k x0 (wrap64 (x4 + 1)) x502000 x502001 (IntKind.u64.wrap ((IntKind.u64.wrap ((IntKind.u64.wrap (x502002 * 1099511628211)) + (IntKind.u64.wrap (rd x0 x4)))) + 103))) else (none)) else (some (x502000, x502001, x502002))) else (some (x502000, x502001, x502002))
def spec_l01From.f (k : Nat) (l0 : List Int) : Option (List Int × Int × Int) := spec_l01From.l0 k l0 0 l0 0 (IntKind.u64.wrap (12831 + (IntKind.u64.wrap ((l0.length : Int)))))
def spec_l01From.T5 : Bool × List (List Nat × List Nat) := (true, [([], []), ([], []), ([1], [1]), ([2], [2]), ([3], [3]), ([4], [4]), ([], []), ([], []), ([6, 7], [6, 7]), ([8], [8]), ([9], [9]), ([5, 10], [5, 10]), ([11], [11]), ([0, 0, 1, 2, 3, 4, 5, 6, 7, 8, 9, 10, 11, 12], [0]), ([13, 0, 1, 2, 3, 4, 5, 6, 7, 8, 9, 10, 11, 12], [13]), ([14, 12, 0, 1, 2, 3, 4, 5, 6, 7, 8, 9, 10, 11, 12], [12, 14])])
def spec_l01From.B5 : List Nat := [0, 0, 2, 6, 14, 30, 0, 0, 192, 448, 960, 2046, 4094, 8191, 16383, 32767]
theorem spec_l01From.tab5 : rtab .any (opsOf Try.f103 5) = spec_l01From.T5 := by kernel_rfl
theorem spec_l01From.bits5 : waitsOk spec_l01From.T5.2 spec_l01From.B5 = true := by kernel_rfl
set_option maxHeartbeats 8000000 in
set_option maxRecDepth 100000 in
theorem spec_l01From.calls (k : Nat) (A0 : Option Addr) (c0 : Nat) (l0 : List Int) (r1 : List Int) (r2 : Int) (r3 : Int) (w0 w : World) (hB : Below w0.heap.size w0 w) (hr0 : Kd.C (Kd.int .u8) w0 A0 l0.length l0) (hc0 : l0.length ≤ c0) (h : spec_l01From.f k l0 = some (r1, r2, r3)) :
  Calls Try.prog 103 #[.slice A0 l0.length c0] w fun e w' => ∃ g_ : Nat, e = .returned (.pointer (some ⟨g_, 0, none⟩)) ∧ IsS99 w0 w' g_ r1 r2 r3 ∧ Below w0.heap.size w0 w' ∧ Below w.heap.size w w' := by
 have hu99 := Try.underlying99
 have HR0 := as0 hr0
 have HC0 := as0 hc0
 clear hr0 hc0
 have HBW := as0 (Below.refl w.heap.size w)
 have HW0 := as0 hB.size
 have HB := as0 hB
 clear hB
 have H : (spec_l01From.l0 k l0 0 l0 0 (IntKind.u64.wrap (12831 + (IntKind.u64.wrap ((l0.length : Int)))))) = some (r1, r2, r3) := h
 clear h
 have H' := as0 H
 clear H
 go_enter Try.func103, Try.ntmps103
 go_wp2_with (first | ((with_reducible refine gate_dst (N := 11) rfl ?_); refine box_event ?hg (N := 11) ?hd (cs := #[.slice A0 l0.length c0, .int .i64 0, .int .u64 (IntKind.u64.wrap (12831 + (IntKind.u64.wrap ((l0.length : Int)))))]) (t := 99) ?hr ?_; (case hd => rfl); (case hg => rfl); (case hr => first | (go_simp; done) | (go_simp; rfl)); intro gb501 hg w2 hbox hb; have n0_ := as0 (below_step HBW.out hb); have n1_ := as0 (below_step (bs HB) hb); have n2_ := as0 (hbox); have n3_ := as0 ((by rw [hg]; exact (below_size (by repeat (first | (with_reducible first | exact HBW.out | apply below_alloc | apply pw_below_drewN | apply below_drew1) | exact HBW.out))) : w.heap.size ≤ gb501)); have n4_ := as0 ((Nat.le_trans HW0.out (by rw [hg]; exact (below_size (by repeat (first | (with_reducible first | exact HBW.out | apply below_alloc | apply pw_below_drewN | apply below_drew1) | exact HBW.out))) : w.heap.size ≤ gb501) : w0.heap.size ≤ gb501)); clear HBW; clear HB; have HBW := n0_; have HB := n1_; have BK501 := n2_; have GW501 := n3_; have GE501 := n4_; clear n0_ n1_ n2_ n3_ n4_; clear hb hbox hg))
 go_loopg [4] k (fun kq v4 w' => ∃ (x4_1 : Int) (x502002_1 : Int), v4 = .int .i64 x4_1 ∧ Aside0 (spec_l01From.l0 kq l0 x4_1 l0 0 x502002_1 = some (r1, r2, r3)) ∧ Aside0 (kq ≤ k) ∧ Aside0 (w'.heap[gb501]? = some (.cells #[(.slice A0 l0.length c0), .int .i64 0, .int .u64 x502002_1] 99 (0, 0))) ∧ Aside0 (Below w0.heap.size w0 w') ∧ Aside0 (Below w.heap.size w w'))
 case atStart => exact ⟨(0), (IntKind.u64.wrap (12831 + (IntKind.u64.wrap ((l0.length : Int))))), ea_, H', ⟨Nat.le_refl _⟩, ⟨by (with_reducible repeat (first | refine blk_drewN ?_ _ | refine blk_drew ?_ | refine blk_alloc ?_ _)); exact BK501.out⟩, ⟨by repeat (first | (with_reducible first | exact HB.out | apply below_alloc | apply pw_below_drewN | apply below_drew1 | refine below_set ?_ GE501.out) | exact HB.out)⟩, ⟨by repeat (first | (with_reducible first | exact HBW.out | apply below_alloc | apply pw_below_drewN | apply below_drew1 | refine below_set ?_ GW501.out) | exact HBW.out)⟩⟩
 case round =>
  clear H'
  try clear c1
  try clear p2
  obtain ⟨x4_1, x502002_1, rfl, HA, HK1, BK501, HB, HBW⟩ := hrel
  cases gk with
  | zero => exact absurd HA.out (by simp [spec_l01From.l0])
  | succ k1 =>
   have H := HA.out
   clear HA
   simp only [spec_l01From.l0] at H
   by_cases c3 : x4_1 < (l0.length : Int)
   ·
    rw [if_pos c3] at H
    have c3b0 : decide (x4_1 < (l0.length : Int)) = true := decide_eq_true c3
    clear c3
    by_cases c4 : x4_1 < 4096
    ·
     rw [if_pos c4] at H
     have c4b0 : decide (x4_1 < 4096) = true := decide_eq_true c4
     clear c4
     by_cases c5 : 0 ≤ x4_1
     ·
      rw [if_pos c5] at H
      have c5b0 : decide (0 ≤ x4_1) = true := decide_eq_true c5
      clear c5
      have H' := as0 H
      clear H
      try go_wp2
      have n0_ := as0 (blk_drew BK501.out)
      have n1_ := as0 (below_drew1 HB.out)
      have nw_ := as0 (below_drew1 HBW.out)
      clear BK501
      clear HB
      have BK501 := n0_
      have HB := n1_
      clear HBW
      have HBW := nw_
      clear nw_
      clear n0_ n1_
      have p502 : 0 ≤ (x4_1 : Int) := oa_
      have q502 : x4_1 < (l0.length : Int) := oa_
      obtain ⟨ad502, e502, hx502_0⟩ := Kd.at_int HR0.out x4_1 p502 q502
      have hw502_0 := hx502_0
      cases e502
      replace hx502_0 := pw_cell_below HB.out hx502_0
      replace p502 := eq_true p502
      replace q502 := eq_true q502
      refine start_ (n := 16) (S := fun w' => w'.cell? ⟨gb501, 0, none⟩ = some (.slice (some ad502) l0.length c0) ∧ w'.cell? ⟨gb501, 1, none⟩ = some (.int .i64 0) ∧ w'.cell? ⟨gb501, 2, none⟩ = some (.int .u64 x502002_1) ∧ w'.cell? (ad502.add (x4_1).toNat) = some (.int .u8 (rd l0 x4_1))) (ds := [15]) #[false, false, false, false, false, false, false, false, false, false, false, false, false, false, false, false] (by kernel_rfl) rfl rfl ⟨(blk_cell BK501.out 0).trans rfl, (blk_cell BK501.out 1).trans rfl, (blk_cell BK501.out 2).trans rfl, ((HB.out.cell (World.block_lt_of_cell? _ _ hw502_0)).trans hw502_0)⟩ (fun hHeld => ?_); refine with_tabW spec_l01From.tab5 spec_l01From.bits5 (fun HT_ HW_ => ?_)
      generalize wr.drew = w6 at BK501 HB HBW hx502_0 hHeld ⊢
      refine pm_ HT_ (i := 0) (N := some 22) ?_
      refine pm_ HT_ (i := 1) (N := some 23) ?_
      refine pm_ HT_ (i := 2) (N := some 24) ?_
      refine pm_ HT_ (i := 3) (N := some 25) ?_
      refine pm_ HT_ (i := 6) (N := some 28) ?_
      refine pm_ HT_ (i := 7) (N := some 29) ?_
      refine pm_ HT_ (i := 8) (N := some 30) ?_
      refine tm4_ HT_ HW_ (i := 4) (N := some 26) hHeld ?_
      refine pm_ HT_ (i := 5) (N := some 27) ?_
      refine tm4_ HT_ HW_ (i := 9) (N := some 31) hHeld ?_
      refine pm_ HT_ (i := 10) (N := some 32) ?_
      refine pm_ HT_ (i := 11) (N := some 33) ?_
      refine pm_ HT_ (i := 12) (N := some 34) ?_
      refine pm_ HT_ (i := 13) (N := some 35) ?_
      refine pm_ HT_ (i := 14) (N := some 36) ?_
      refine last_ (i := 15) (N := none) #[true, true, true, true, true, true, true, true, true, true, true, true, true, true, true, true] rfl rfl (one_of HT_.out (by kernel_rfl)) (by decide) (fun K hK => ?_)
      have hs7 : w6.cell? ⟨gb501, 2, none⟩ = some (.int .u64 x502002_1) := (blk_cell BK501.out 2).trans rfl
      have hfs7 := blk_frozen BK501.out 2
      refine skip_ (w1 := ?_) (by rfl) rfl ?_ ?_
      rotate_left
      ·
       go_simp
       rfl
      refine hK.out _ _ ?_
      clear hK K
      refine done_ (done_of HT_.out (by kernel_rfl)) ?_
      try go_wp2
      go_roundg k1
      case measure => have := HK1.out; omega
      case rel => exact ⟨(wrap64 (x4_1 + 1)), (IntKind.u64.wrap ((IntKind.u64.wrap ((IntKind.u64.wrap (x502002_1 * 1099511628211)) + (IntKind.u64.wrap (rd l0 x4_1)))) + 103)), ea_, H', ⟨by have := HK1.out; omega⟩, ⟨by (with_reducible repeat (first | refine blk_drewN ?_ _ | refine blk_drew ?_ | refine blk_alloc ?_ _)); refine blk_put (cs := #[.slice (some ad502) l0.length c0, .int .i64 0, .int .u64 x502002_1]) ?_ 2 _ rfl; (with_reducible repeat (first | refine blk_drewN ?_ _ | refine blk_drew ?_ | refine blk_alloc ?_ _)); exact BK501.out⟩, ⟨by repeat (first | (with_reducible first | exact HB.out | apply below_alloc | apply pw_below_drewN | apply below_drew1 | refine below_set ?_ GE501.out) | exact HB.out)⟩, ⟨by repeat (first | (with_reducible first | exact HBW.out | apply below_alloc | apply pw_below_drewN | apply below_drew1 | refine below_set ?_ GW501.out) | exact HBW.out)⟩⟩
     ·
      rw [if_neg c5] at H
      exact absurd H (by simp)
    ·
     rw [if_neg c4] at H
     have c4b0 : decide (x4_1 < 4096) = false := decide_eq_false c4
     clear c4
     simp only [Option.some.injEq, Prod.mk.injEq] at H
     obtain ⟨rfl, rfl, rfl⟩ := H
     go_wp2
     go_ret
     exact ⟨_, rfl, (show IsS99 w0 _ gb501 l0 0 x502002_1 from ⟨_, _, by (with_reducible repeat (first | refine blk_drewN ?_ _ | refine blk_drew ?_ | refine blk_alloc ?_ _)); exact BK501.out, GE501.out, HR0.out⟩), by repeat (first | (with_reducible first | exact HB.out | apply below_alloc | apply pw_below_drewN | apply below_drew1 | refine below_set ?_ GE501.out) | exact HB.out), by repeat (first | (with_reducible first | exact HBW.out | apply below_alloc | apply pw_below_drewN | apply below_drew1 | refine below_set ?_ GW501.out) | exact HBW.out)⟩
   ·
    rw [if_neg c3] at H
    have c3b0 : decide (x4_1 < (l0.length : Int)) = false := decide_eq_false c3
    clear c3
    simp only [Option.some.injEq, Prod.mk.injEq] at H
    obtain ⟨rfl, rfl, rfl⟩ := H
    go_wp2
    go_ret
    exact ⟨_, rfl, (show IsS99 w0 _ gb501 l0 0 x502002_1 from ⟨_, _, by (with_reducible repeat (first | refine blk_drewN ?_ _ | refine blk_drew ?_ | refine blk_alloc ?_ _)); exact BK501.out, GE501.out, HR0.out⟩), by repeat (first | (with_reducible first | exact HB.out | apply below_alloc | apply pw_below_drewN | apply below_drew1 | refine below_set ?_ GE501.out) | exact HB.out), by repeat (first | (with_reducible first | exact HBW.out | apply below_alloc | apply pw_below_drewN | apply below_drew1 | refine below_set ?_ GW501.out) | exact HBW.out)⟩
def spec_l01Next.f (s0_0 : List Int) (s0_1 : Int) (s0_2 : Int) (a1 : Int) : Option (Int × Int × Int) := if a1 < 1 then (some (0, s0_1, s0_2)) else (if s0_1 < (s0_0.length : Int) then (if 0 ≤ s0_1 then (if a1 = 0 then (none) else (some (Int.tmod (wrap64 ((wrap64 (Go.bits .and .u64 ((IntKind.u64.wrap ((IntKind.u64.wrap (s0_2 * 6364136223846793005)) + 1442695040888963407)) / 8589934592) 16777215)) + (wrap64 (rd s0_0 s0_1)))) a1, wrap64 (s0_1 + 1), IntKind.u64.wrap ((IntKind.u64.wrap (s0_2 * 6364136223846793005)) + 1442695040888963407)))) else (none)) else (if a1 = 0 then (none) else (some (Int.tmod (wrap64 (Go.bits .and .u64 ((IntKind.u64.wrap ((IntKind.u64.wrap (s0_2 * 6364136223846793005)) + 1442695040888963407)) / 8589934592) 16777215)) a1, s0_1, IntKind.u64.wrap ((IntKind.u64.wrap (s0_2 * 6364136223846793005)) + 1442695040888963407)))))
set_option maxHeartbeats 8000000 in
set_option maxRecDepth 100000 in
theorem spec_l01Next.calls (g : Nat) (s0_0 : List Int) (s0_1 : Int) (s0_2 : Int) (a1 : Int) (r1 : Int) (r2 : Int) (r3 : Int) (w0 w : World) (hI : IsS99 w0 w g s0_0 s0_1 s0_2) (hB : Below w0.heap.size w0 w) (h : spec_l01Next.f s0_0 s0_1 s0_2 a1 = some (r1, r2, r3)) :
  Calls Try.prog 107 #[.pointer (some ⟨g, 0, none⟩), .int .i64 a1] w fun e w' => e = .returned (.int .i64 r1) ∧ IsS99 w0 w' g s0_0 r2 r3 ∧ Below w0.heap.size w0 w' ∧ KeepBut w w' g none := by
 have HI0 := as0 hI
 have HK := as0 (KeepBut.refl w g none)
 have HL := as0 hB.size
 clear hI
 have HW0 := as0 hB.size
 have HB := as0 hB
 clear hB
 have H : (if a1 < 1 then (some (0, s0_1, s0_2)) else (if s0_1 < (s0_0.length : Int) then (if 0 ≤ s0_1 then (if a1 = 0 then (none) else (some (Int.tmod (wrap64 ((wrap64 (Go.bits .and .u64 ((IntKind.u64.wrap ((IntKind.u64.wrap (s0_2 * 6364136223846793005)) + 1442695040888963407)) / 8589934592) 16777215)) + (wrap64 (rd s0_0 s0_1)))) a1, wrap64 (s0_1 + 1), IntKind.u64.wrap ((IntKind.u64.wrap (s0_2 * 6364136223846793005)) + 1442695040888963407)))) else (none)) else (if a1 = 0 then (none) else (some (Int.tmod (wrap64 (Go.bits .and .u64 ((IntKind.u64.wrap ((IntKind.u64.wrap (s0_2 * 6364136223846793005)) + 1442695040888963407)) / 8589934592) 16777215)) a1, s0_1, IntKind.u64.wrap ((IntKind.u64.wrap (s0_2 * 6364136223846793005)) + 1442695040888963407)))))) = some (r1, r2, r3) := h
 clear h
 by_cases c3 : a1 < 1
 ·
  rw [if_pos c3] at H
  have c3b0 : decide (a1 < 1) = true := decide_eq_true c3
  clear c3
  simp only [Option.some.injEq, Prod.mk.injEq] at H
  obtain ⟨rfl, rfl, rfl⟩ := H
  go_enter Try.func107, Try.ntmps107
  go_wp2
  repeat (go_quiet (fail); try go_wp2)
  go_ret
  exact ⟨er_, by repeat (first | (with_reducible first | exact HI0.out | apply IsS99.alloc | apply IsS99.drewN | apply IsS99.drew | apply IsS99.set_1 | apply IsS99.set_2) | exact HI0.out), by repeat (first | (with_reducible first | exact HB.out | apply below_alloc | apply pw_below_drewN | apply below_drew1 | refine below_set ?_ (IsS99.ge HI0.out)) | exact HB.out), by repeat (first | (with_reducible first | exact HK.out | apply KeepBut.set_ | apply keep_drewN | apply keep_drew | apply keep_alloc) | exact HK.out)⟩
 ·
  rw [if_neg c3] at H
  have c3b0 : decide (a1 < 1) = false := decide_eq_false c3
  clear c3
  by_cases c4 : s0_1 < (s0_0.length : Int)
  ·
   rw [if_pos c4] at H
   have c4b0 : decide (s0_1 < (s0_0.length : Int)) = true := decide_eq_true c4
   clear c4
   by_cases c5 : 0 ≤ s0_1
   ·
    rw [if_pos c5] at H
    have c5b0 : decide (0 ≤ s0_1) = true := decide_eq_true c5
    clear c5
    by_cases c6 : a1 = 0
    ·
     rw [if_pos c6] at H
     exact absurd H (by simp)
    ·
     rw [if_neg c6] at H
     have c6b0 : (a1 == 0) = false := beq_eq_false_iff_ne.mpr c6
     have c6b1 : (a1 != 0) = true := bne_iff_ne.mpr c6
     simp only [Option.some.injEq, Prod.mk.injEq] at H
     obtain ⟨rfl, rfl, rfl⟩ := H
     obtain ⟨ASz7_0, cSz7_0, HGz7, hgz7, HSz7_0⟩ := HI0.out
     have hcz7_0 := cellS99_0 HGz7
     have hcz7_1 := cellS99_1 HGz7
     have hcz7_2 := cellS99_2 HGz7
     have hfz7_1 := blk_frozen HGz7 1
     have hfz7_2 := blk_frozen HGz7 2
     clear HGz7 hgz7
     have p503 : 0 ≤ (s0_1 : Int) := oa_
     have q503 : s0_1 < (s0_0.length : Int) := oa_
     obtain ⟨ad503, e503, hx503_0⟩ := Kd.at_int HSz7_0 s0_1 p503 q503
     cases e503
     have hn503_0 : ad503.block ≠ g := Nat.ne_of_lt (Nat.lt_of_lt_of_le (by have := World.block_lt_of_cell? _ _ hx503_0; first | rwa [add_block] at this | exact this) (IsS99.ge HI0.out))
     replace hx503_0 := pw_cell_below HB.out hx503_0
     replace hx503_0 := (cell_far (p := ⟨g, 2, none⟩) (by first | (rw [add_block]; exact hn503_0) | (show (Addr.add _ _).block ≠ _; rw [add_block]; exact hn503_0) | exact hn503_0) (.int .u64 (IntKind.u64.wrap ((IntKind.u64.wrap (s0_2 * 6364136223846793005)) + 1442695040888963407)))).trans hx503_0
     (try have hy503_0 := fun (n_ : Nat) => (show (((w.drewN n_).setCell ⟨g, 2, none⟩ (.int .u64 (IntKind.u64.wrap ((IntKind.u64.wrap (s0_2 * 6364136223846793005)) + 1442695040888963407))))).cell? _ = some _ from hx503_0))
     clear hn503_0
     replace p503 := eq_true p503
     replace q503 := eq_true q503
     go_enter Try.func107, Try.ntmps107
     go_wp2
     repeat (go_quiet (fail); try go_wp2)
     go_ret
     exact ⟨er_, by repeat (first | (with_reducible first | exact HI0.out | apply IsS99.alloc | apply IsS99.drewN | apply IsS99.drew | apply IsS99.set_1 | apply IsS99.set_2) | exact HI0.out), by repeat (first | (with_reducible first | exact HB.out | apply below_alloc | apply pw_below_drewN | apply below_drew1 | refine below_set ?_ (IsS99.ge HI0.out)) | exact HB.out), by repeat (first | (with_reducible first | exact HK.out | apply KeepBut.set_ | apply keep_drewN | apply keep_drew | apply keep_alloc) | exact HK.out)⟩
   ·
    rw [if_neg c5] at H
    exact absurd H (by simp)
  ·
   rw [if_neg c4] at H
   have c4b0 : decide (s0_1 < (s0_0.length : Int)) = false := decide_eq_false c4
   clear c4
   by_cases c8 : a1 = 0
   ·
    rw [if_pos c8] at H
    exact absurd H (by simp)
   ·
    rw [if_neg c8] at H
    have c8b0 : (a1 == 0) = false := beq_eq_false_iff_ne.mpr c8
    have c8b1 : (a1 != 0) = true := bne_iff_ne.mpr c8
    simp only [Option.some.injEq, Prod.mk.injEq] at H
    obtain ⟨rfl, rfl, rfl⟩ := H
    obtain ⟨ASz9_0, cSz9_0, HGz9, hgz9, HSz9_0⟩ := HI0.out
    have hcz9_0 := cellS99_0 HGz9
    have hcz9_1 := cellS99_1 HGz9
    have hcz9_2 := cellS99_2 HGz9
    have hfz9_1 := blk_frozen HGz9 1
    have hfz9_2 := blk_frozen HGz9 2
    clear HGz9 hgz9
    go_enter Try.func107, Try.ntmps107
    go_wp2
    repeat (go_quiet (fail); try go_wp2)
    go_ret
    exact ⟨er_, by repeat (first | (with_reducible first | exact HI0.out | apply IsS99.alloc | apply IsS99.drewN | apply IsS99.drew | apply IsS99.set_1 | apply IsS99.set_2) | exact HI0.out), by repeat (first | (with_reducible first | exact HB.out | apply below_alloc | apply pw_below_drewN | apply below_drew1 | refine below_set ?_ (IsS99.ge HI0.out)) | exact HB.out), by repeat (first | (with_reducible first | exact HK.out | apply KeepBut.set_ | apply keep_drewN | apply keep_drew | apply keep_alloc) | exact HK.out)⟩
def spec_l01DrawList.l0 : Nat → Int → Int → List Int → Int → List Int → Int → Int → Option (List Int × Int × Int)
 | 0, _, _, _, _, _, _, _ => none
 | k + 1, x1, x2, x7, x8, x1000, x1001, x1002 => if x2 > 0 then (if x8 = 0 then ((spec_l01Next.f x1000 x1001 x1002 x1).bind fun bt510 => (if x7.length < 17592186044416 then (spec_l01DrawList.l0 k x1 (wrap64 (x2 - 1)) (x7 ++ [bt510.1]) x8 x1000 bt510.2.1 bt510.2.2) else (none))) else ((spec_l01Next.f x1000 x1001 x1002 3).bind fun bt516 => (if bt516.1 > 0 then ((spec_l01Next.f x1000 bt516.2.1 bt516.2.2 x1).bind fun bt519 => (if x7.length < 17592186044416 then (spec_l01DrawList.l0 k x1 (wrap64 (x2 - 1)) (x7 ++ [bt519.1]) x8 x1000 bt519.2.1 bt519.2.2) else (none))) else (if x7.length < 17592186044416 then (spec_l01DrawList.l0 k x1 (wrap64 (x2 - 1)) (x7 ++ [0]) x8 x1000 bt516.2.1 bt516.2.2) else (none))))) else (some (x7, x1001, x1002))
def spec_l01DrawList.f (k : Nat) (s0_0 : List Int) (s0_1 : Int) (s0_2 : Int) (a1 : Int) (a2 : Int) : Option (List Int × Int × Int) := (spec_l01Next.f s0_0 s0_1 s0_2 3).bind fun bt507 => (spec_l01DrawList.l0 k a1 a2 (([] : List Int)) bt507.1 s0_0 bt507.2.1 bt507.2.2)
set_option maxHeartbeats 8000000 in
set_option maxRecDepth 100000 in
theorem spec_l01DrawList.calls (k : Nat) (g : Nat) (s0_0 : List Int) (s0_1 : Int) (s0_2 : Int) (a1 : Int) (a2 : Int) (r1 : List Int) (r2 : Int) (r3 : Int) (w0 w : World) (hI : IsS99 w0 w g s0_0 s0_1 s0_2) (hB : Below w0.heap.size w0 w) (h : spec_l01DrawList.f k s0_0 s0_1 s0_2 a1 a2 = some (r1, r2, r3)) :
  Calls Try.prog 123 #[.pointer (some ⟨g, 0, none⟩), .int .i64 a1, .int .i64 a2] w fun e w' => ∃ v0_ : Value, e = .returned (v0_) ∧ Kd.R (Kd.int .i64) 2 w' w.heap.size (fun _ => True) v0_ r1 ∧ IsS99 w0 w' g s0_0 r2 r3 ∧ Below w0.heap.size w0 w' ∧ KeepBut w w' g none := by
 have HI0 := as0 hI
 have HK := as0 (KeepBut.refl w g none)
 have HL := as0 hB.size
 clear hI
 have HW0 := as0 hB.size
 have HB := as0 hB
 clear hB
 have H : ((spec_l01Next.f s0_0 s0_1 s0_2 3).bind fun bt507 => (spec_l01DrawList.l0 k a1 a2 (([] : List Int)) bt507.1 s0_0 bt507.2.1 bt507.2.2)) = some (r1, r2, r3) := h
 clear h
 obtain ⟨y504, hy504⟩ : ∃ y_ : List Int, y_ = (([] : List Int)) := ⟨_, rfl⟩
 replace H : ((spec_l01Next.f s0_0 s0_1 s0_2 3).bind fun bt507 => (spec_l01DrawList.l0 k a1 a2 y504 bt507.1 s0_0 bt507.2.1 bt507.2.2)) = some (r1, r2, r3) := by first | (rw [hy504]; with_reducible exact H) | (have H2_ := (Option.bind_some _ _).symm.trans H; rw [hy504]; with_reducible exact H2_) | (have H2_ := (Option.bind_some _ _).symm.trans H; with_reducible exact H2_) | with_reducible exact H | (rw [hy504]; exact H) | exact H
 have Ny504 := as0 hy504
 clear hy504
 replace H := Option.bind_eq_some_iff.mp H
 obtain ⟨⟨t507, t508, t509⟩, A40, H⟩ := H
 have A4 := as0 A40
 clear A40
 have H' := as0 H
 clear H
 go_enter Try.func123, Try.ntmps123
 go_wp2_with (first | ((with_reducible refine gate_dst (N := 9) rfl ?_); refine Kd.R_lit (Kd.int .i64) _ 2 ?hg (N := 9) ?hd (xs := ([] : List Int)) (inner := []) (ok := fun _ => True) (okp := fun _ => True) ?hr ?hp (fun _ hk => hk) trivial (Below.refl _ _) (Nat.le_refl _) (by simp) ?_; (case hd => rfl); (case hg => rfl); (case hr => first | (go_simp; done) | (go_simp; rfl)); (case hp => exact (Reps.none _ _)); intro v505 w5 ho6 hb hg_ hnew_; clear hg_ hnew_; (first | rw [← Ny504.out] at ho6 | (simp only [Int.reduceToNat] at ho6; rw [← Ny504.out] at ho6)); have n0_ := as0 (Kd.R_lower ho6 (keep_size (w := w) (g := g) (row := none) (by repeat (first | (with_reducible first | exact HK.out | apply KeepBut.set_ | apply keep_drewN | apply keep_drew | apply keep_alloc) | exact HK.out)))); have n1_ := as0 (IsS99.below (by repeat (first | (with_reducible first | exact HI0.out | apply IsS99.alloc | apply IsS99.drewN | apply IsS99.drew | apply IsS99.set_1 | apply IsS99.set_2) | exact HI0.out)) hb); have n2_ := as0 (KeepBut.trans (by repeat (first | (with_reducible first | exact HK.out | apply KeepBut.set_ | apply keep_drewN | apply keep_drew | apply keep_alloc) | exact HK.out)) (KeepBut.of_below hb g none) (.inl rfl)); have n3_ := as0 (below_step (by repeat (first | (with_reducible first | exact HB.out | apply below_alloc | apply pw_below_drewN | apply below_drew1 | refine below_set ?_ (IsS99.ge HI0.out)) | exact HB.out)) hb); clear HI0; clear HK; clear HB; have HO506 := n0_; have HI0 := n1_; have HK := n2_; have HB := n3_; clear n0_ n1_ n2_ n3_; clear hb ho6) | ((with_reducible refine gate_callee (f := 107) rfl ?_); refine goesM_ (some 11) rfl rfl Try.func107 #[.pointer (some ⟨g, 0, none⟩), .int .i64 3] rfl ?_; (with_reducible refine (spec_l01Next.calls g s0_0 s0_1 s0_2 3 t507 t508 t509 w0 _ ?side1 ?side2 A4.out).mono ?_); (case side1 => repeat (first | (with_reducible first | exact HI0.out | apply IsS99.alloc | apply IsS99.drewN | apply IsS99.drew | apply IsS99.set_1 | apply IsS99.set_2) | exact HI0.out)); (case side2 => repeat (first | (with_reducible first | exact HB.out | apply below_alloc | apply pw_below_drewN | apply below_drew1 | refine below_set ?_ (IsS99.ge HI0.out)) | exact HB.out)); rintro e w7 ⟨rfl, hi, hb, hk⟩; refine ⟨_, rfl, ?_⟩; have n0_ := as0 (Kd.R_mono (Kd.R_keep (IsS99.apart (show IsS99 w0 _ g s0_0 s0_1 s0_2 from by repeat (first | (with_reducible first | exact HI0.out | apply IsS99.alloc | apply IsS99.drewN | apply IsS99.drew | apply IsS99.set_1 | apply IsS99.set_2) | exact HI0.out)) (rs HO506) (by decide)) hk (fun _ h => h.2)) (fun _ h => h.1)); have n1_ := as0 (KeepBut.trans (by repeat (first | (with_reducible first | exact HK.out | apply KeepBut.set_ | apply keep_drewN | apply keep_drew | apply keep_alloc) | exact HK.out)) hk (.inl rfl)); have n2_ := as0 (hb); have n3_ := as0 (hi); clear HO506; clear HK; clear HB; clear HI0; have HO506 := n0_; have HK := n1_; have HB := n2_; have HI0 := n3_; clear n0_ n1_ n2_ n3_; (try clear hb); (try clear hb2); (try clear hk); (try clear hi)))
 go_loopg [2, 7] k (fun kq v2 v7 w' => ∃ (x2_1 : Int) (x7_1 : List Int) (x1001_1 : Int) (x1002_1 : Int), v2 = .int .i64 x2_1 ∧ Aside0 (spec_l01DrawList.l0 kq a1 x2_1 x7_1 t507 s0_0 x1001_1 x1002_1 = some (r1, r2, r3)) ∧ Aside0 (kq ≤ k) ∧ Aside0 (Kd.R (Kd.int .i64) 2 w' w.heap.size (fun _ => True) v7 x7_1) ∧ Aside0 (IsS99 w0 w' g s0_0 x1001_1 x1002_1) ∧ Aside0 (KeepBut w w' g none) ∧ Aside0 (Below w0.heap.size w0 w'))
 case atStart => exact ⟨(a2), (y504), (t508), (t509), ea_, H', ⟨Nat.le_refl _⟩, ⟨rs HO506⟩, ⟨by repeat (first | (with_reducible first | exact HI0.out | apply IsS99.alloc | apply IsS99.drewN | apply IsS99.drew | apply IsS99.set_1 | apply IsS99.set_2) | exact HI0.out)⟩, ⟨by repeat (first | (with_reducible first | exact HK.out | apply KeepBut.set_ | apply keep_drewN | apply keep_drew | apply keep_alloc) | exact HK.out)⟩, ⟨by repeat (first | (with_reducible first | exact HB.out | apply below_alloc | apply pw_below_drewN | apply below_drew1 | refine below_set ?_ (IsS99.ge HI0.out)) | exact HB.out)⟩⟩
 case round =>
  clear H'
  try clear c1
  try clear p2
  obtain ⟨x2_1, x7_1, x1001_1, x1002_1, rfl, HA, HK1, HO_7, HI0, HK, HB⟩ := hrel
  cases gk with
  | zero => exact absurd HA.out (by simp [spec_l01DrawList.l0])
  | succ k1 =>
   have H := HA.out
   clear HA
   simp only [spec_l01DrawList.l0] at H
   by_cases c8 : x2_1 > 0
   ·
    rw [if_pos c8] at H
    have c8b0 : decide (0 < x2_1) = true := decide_eq_true c8
    clear c8
    by_cases c9 : t507 = 0
    ·
     rw [if_pos c9] at H
     have c9b0 : (t507 == 0) = true := beq_iff_eq.mpr c9
     have c9b1 : (t507 != 0) = false := bne_eq_false_iff_eq.mpr c9
     clear c9
     replace H := Option.bind_eq_some_iff.mp H
     obtain ⟨⟨t510, t511, t512⟩, A100, H⟩ := H
     have A10 := as0 A100
     clear A100
     by_cases c11 : x7_1.length < 17592186044416
     ·
      rw [if_pos c11] at H
      have LMc11 := as0 c11
      clear c11
      obtain ⟨y513, hy513⟩ : ∃ y_ : List Int, y_ = (x7_1 ++ [t510]) := ⟨_, rfl⟩
      replace H : (spec_l01DrawList.l0 k1 a1 (wrap64 (x2_1 - 1)) y513 t507 s0_0 t511 t512) = some (r1, r2, r3) := by first | (rw [hy513]; with_reducible exact H) | (have H2_ := (Option.bind_some _ _).symm.trans H; rw [hy513]; with_reducible exact H2_) | (have H2_ := (Option.bind_some _ _).symm.trans H; with_reducible exact H2_) | with_reducible exact H | (rw [hy513]; exact H) | exact H
      have Ny513 := as0 hy513
      clear hy513
      have H' := as0 H
      clear H
      go_wp2_with (first | ((with_reducible refine gate_callee (f := 107) rfl ?_); refine goesM_ (some 26) rfl rfl Try.func107 #[.pointer (some ⟨g, 0, none⟩), .int .i64 a1] rfl ?_; (with_reducible refine (spec_l01Next.calls g s0_0 x1001_1 x1002_1 a1 t510 t511 t512 w0 _ ?side1 ?side2 A10.out).mono ?_); (case side1 => repeat (first | (with_reducible first | exact HI0.out | apply IsS99.alloc | apply IsS99.drewN | apply IsS99.drew | apply IsS99.set_1 | apply IsS99.set_2) | exact HI0.out)); (case side2 => repeat (first | (with_reducible first | exact HB.out | apply below_alloc | apply pw_below_drewN | apply below_drew1 | refine below_set ?_ (IsS99.ge HI0.out)) | exact HB.out)); rintro e w12 ⟨rfl, hi, hb, hk⟩; refine ⟨_, rfl, ?_⟩; have n0_ := as0 (Kd.R_mono (Kd.R_keep (IsS99.apart (show IsS99 w0 _ g s0_0 x1001_1 x1002_1 from by repeat (first | (with_reducible first | exact HI0.out | apply IsS99.alloc | apply IsS99.drewN | apply IsS99.drew | apply IsS99.set_1 | apply IsS99.set_2) | exact HI0.out)) (rs HO_7) (by decide)) hk (fun _ h => h.2)) (fun _ h => h.1)); have n1_ := as0 (KeepBut.trans (by repeat (first | (with_reducible first | exact HK.out | apply KeepBut.set_ | apply keep_drewN | apply keep_drew | apply keep_alloc) | exact HK.out)) hk (.inl rfl)); have n2_ := as0 (hb); have n3_ := as0 (hi); clear HO_7; clear HK; clear HB; clear HI0; have HO_7 := n0_; have HK := n1_; have HB := n2_; have HI0 := n3_; clear n0_ n1_ n2_ n3_; (try clear hb); (try clear hb2); (try clear hk); (try clear hi)) | ((with_reducible refine gate_builtin (b := .append) (xs := #[.tmp 23, .tmp 27]) rfl ?_); at_builtin; refine Kd.R_append (Kd.int .i64) w.heap.size rfl (.tmp 23) (.tmp 27) 22 2 (.int .i64 0) 8 rfl Try.underlying22 info2 rfl (by decide) (by omega) u7 x7_1 t510 [.int .i64 t510] (fun _ => True) (fun _ => False) rfl rfl ?aP (fun _ hk => hk.elim) ?aF ?aO (Below.refl _ _) ?aS ?aL ?_; (case aP => exact rfl); (case aF => exact (fun _ _ => trivial)); (case aO => exact (rs HO_7)); (case aS => exact (keep_size (w := w) (g := g) (row := none) (by repeat (first | (with_reducible first | exact HK.out | apply KeepBut.set_ | apply keep_drewN | apply keep_drew | apply keep_alloc) | exact HK.out)))); (case aL => have := LMc11.out; omega); intro v514 w13 ho hb hg hat; rw [← Ny513.out] at ho; have n0_ := as0 (IsS99.grown (by repeat (first | (with_reducible first | exact HI0.out | apply IsS99.alloc | apply IsS99.drewN | apply IsS99.drew | apply IsS99.set_1 | apply IsS99.set_2) | exact HI0.out)) hg (IsS99.own_ne HI0.out HO_7.out (by decide))); have n1_ := as0 (below_weaken (by repeat (first | (with_reducible first | exact HB.out | apply below_alloc | apply pw_below_drewN | apply below_drew1 | refine below_set ?_ (IsS99.ge HI0.out)) | exact HB.out)) HL.out hb); have n2_ := as0 (KeepBut.trans (by repeat (first | (with_reducible first | exact HK.out | apply KeepBut.set_ | apply keep_drewN | apply keep_drew | apply keep_alloc) | exact HK.out)) (KeepBut.of_grown hg g) (Kd.R_base2 HO_7.out)); have n3_ := as0 (ho); clear HI0; clear HB; clear HK; clear HO_7; have HI0 := n0_; have HB := n1_; have HK := n2_; have HO515 := n3_; clear n0_ n1_ n2_ n3_; clear ho hb hg hat))
      go_roundg k1
      case measure => have := HK1.out; omega
      case rel => exact ⟨(wrap64 (x2_1 - 1)), (y513), (t511), (t512), ea_, H', ⟨by have := HK1.out; omega⟩, ⟨rs HO515⟩, ⟨by repeat (first | (with_reducible first | exact HI0.out | apply IsS99.alloc | apply IsS99.drewN | apply IsS99.drew | apply IsS99.set_1 | apply IsS99.set_2) | exact HI0.out)⟩, ⟨by repeat (first | (with_reducible first | exact HK.out | apply KeepBut.set_ | apply keep_drewN | apply keep_drew | apply keep_alloc) | exact HK.out)⟩, ⟨by repeat (first | (with_reducible first | exact HB.out | apply below_alloc | apply pw_below_drewN | apply below_drew1 | refine below_set ?_ (IsS99.ge HI0.out)) | exact HB.out)⟩⟩
     ·
      rw [if_neg c11] at H
      exact absurd H (by simp)
    ·
     rw [if_neg c9] at H
     have c9b0 : (t507 == 0) = false := beq_eq_false_iff_ne.mpr c9
     have c9b1 : (t507 != 0) = true := bne_iff_ne.mpr c9
     replace H := Option.bind_eq_some_iff.mp H
     obtain ⟨⟨t516, t517, t518⟩, A140, H⟩ := H
     have A14 := as0 A140
     clear A140
     by_cases c15 : t516 > 0
     ·
      rw [if_pos c15] at H
      have c15b0 : decide (0 < t516) = true := decide_eq_true c15
      clear c15
      replace H := Option.bind_eq_some_iff.mp H
      obtain ⟨⟨t519, t520, t521⟩, A160, H⟩ := H
      have A16 := as0 A160
      clear A160
      by_cases c17 : x7_1.length < 17592186044416
      ·
       rw [if_pos c17] at H
       have LMc17 := as0 c17
       clear c17
       obtain ⟨y522, hy522⟩ : ∃ y_ : List Int, y_ = (x7_1 ++ [t519]) := ⟨_, rfl⟩
       replace H : (spec_l01DrawList.l0 k1 a1 (wrap64 (x2_1 - 1)) y522 t507 s0_0 t520 t521) = some (r1, r2, r3) := by first | (rw [hy522]; with_reducible exact H) | (have H2_ := (Option.bind_some _ _).symm.trans H; rw [hy522]; with_reducible exact H2_) | (have H2_ := (Option.bind_some _ _).symm.trans H; with_reducible exact H2_) | with_reducible exact H | (rw [hy522]; exact H) | exact H
       have Ny522 := as0 hy522
       clear hy522
       have H' := as0 H
       clear H
       go_wp2_with (first | (go_at_call 107; (with_reducible refine (spec_l01Next.calls g s0_0 x1001_1 x1002_1 3 t516 t517 t518 w0 _ ?side1 ?side2 A14.out).mono ?_); (case side1 => repeat (first | (with_reducible first | exact HI0.out | apply IsS99.alloc | apply IsS99.drewN | apply IsS99.drew | apply IsS99.set_1 | apply IsS99.set_2) | exact HI0.out)); (case side2 => repeat (first | (with_reducible first | exact HB.out | apply below_alloc | apply pw_below_drewN | apply below_drew1 | refine below_set ?_ (IsS99.ge HI0.out)) | exact HB.out)); rintro e w18 ⟨rfl, hi, hb, hk⟩; have n0_ := as0 (Kd.R_mono (Kd.R_keep (IsS99.apart (show IsS99 w0 _ g s0_0 x1001_1 x1002_1 from by repeat (first | (with_reducible first | exact HI0.out | apply IsS99.alloc | apply IsS99.drewN | apply IsS99.drew | apply IsS99.set_1 | apply IsS99.set_2) | exact HI0.out)) (rs HO_7) (by decide)) hk (fun _ h => h.2)) (fun _ h => h.1)); have n1_ := as0 (KeepBut.trans (by repeat (first | (with_reducible first | exact HK.out | apply KeepBut.set_ | apply keep_drewN | apply keep_drew | apply keep_alloc) | exact HK.out)) hk (.inl rfl)); have n2_ := as0 (hb); have n3_ := as0 (hi); clear HO_7; clear HK; clear HB; clear HI0; have HO_7 := n0_; have HK := n1_; have HB := n2_; have HI0 := n3_; clear n0_ n1_ n2_ n3_; (try clear hb); (try clear hb2); (try clear hk); (try clear hi)) | ((with_reducible refine gate_callee (f := 107) rfl ?_); refine goesM_ (some 26) rfl rfl Try.func107 #[.pointer (some ⟨g, 0, none⟩), .int .i64 a1] rfl ?_; (with_reducible refine (spec_l01Next.calls g s0_0 t517 t518 a1 t519 t520 t521 w0 _ ?side1 ?side2 A16.out).mono ?_); (case side1 => repeat (first | (with_reducible first | exact HI0.out | apply IsS99.alloc | apply IsS99.drewN | apply IsS99.drew | apply IsS99.set_1 | apply IsS99.set_2) | exact HI0.out)); (case side2 => repeat (first | (with_reducible first | exact HB.out | apply below_alloc | apply pw_below_drewN | apply below_drew1 | refine below_set ?_ (IsS99.ge HI0.out)) | exact HB.out)); rintro e w19 ⟨rfl, hi, hb, hk⟩; refine ⟨_, rfl, ?_⟩; have n0_ := as0 (Kd.R_mono (Kd.R_keep (IsS99.apart (show IsS99 w0 _ g s0_0 t517 t518 from by repeat (first | (with_reducible first | exact HI0.out | apply IsS99.alloc | apply IsS99.drewN | apply IsS99.drew | apply IsS99.set_1 | apply IsS99.set_2) | exact HI0.out)) (rs HO_7) (by decide)) hk (fun _ h => h.2)) (fun _ h => h.1)); have n1_ := as0 (KeepBut.trans (by repeat (first | (with_reducible first | exact HK.out | apply KeepBut.set_ | apply keep_drewN | apply keep_drew | apply keep_alloc) | exact HK.out)) hk (.inl rfl)); have n2_ := as0 (hb); have n3_ := as0 (hi); clear HO_7; clear HK; clear HB; clear HI0; have HO_7 := n0_; have HK := n1_; have HB := n2_; have HI0 := n3_; clear n0_ n1_ n2_ n3_; (try clear hb); (try clear hb2); (try clear hk); (try clear hi)) | ((with_reducible refine gate_builtin (b := .append) (xs := #[.tmp 23, .tmp 27]) rfl ?_); at_builtin; refine Kd.R_append (Kd.int .i64) w.heap.size rfl (.tmp 23) (.tmp 27) 22 2 (.int .i64 0) 8 rfl Try.underlying22 info2 rfl (by decide) (by omega) u7 x7_1 t519 [.int .i64 t519] (fun _ => True) (fun _ => False) rfl rfl ?aP (fun _ hk => hk.elim) ?aF ?aO (Below.refl _ _) ?aS ?aL ?_; (case aP => exact rfl); (case aF => exact (fun _ _ => trivial)); (case aO => exact (rs HO_7)); (case aS => exact (keep_size (w := w) (g := g) (row := none) (by repeat (first | (with_reducible first | exact HK.out | apply KeepBut.set_ | apply keep_drewN | apply keep_drew | apply keep_alloc) | exact HK.out)))); (case aL => have := LMc17.out; omega); intro v523 w20 ho hb hg hat; rw [← Ny522.out] at ho; have n0_ := as0 (IsS99.grown (by repeat (first | (with_reducible first | exact HI0.out | apply IsS99.alloc | apply IsS99.drewN | apply IsS99.drew | apply IsS99.set_1 | apply IsS99.set_2) | exact HI0.out)) hg (IsS99.own_ne HI0.out HO_7.out (by decide))); have n1_ := as0 (below_weaken (by repeat (first | (with_reducible first | exact HB.out | apply below_alloc | apply pw_below_drewN | apply below_drew1 | refine below_set ?_ (IsS99.ge HI0.out)) | exact HB.out)) HL.out hb); have n2_ := as0 (KeepBut.trans (by repeat (first | (with_reducible first | exact HK.out | apply KeepBut.set_ | apply keep_drewN | apply keep_drew | apply keep_alloc) | exact HK.out)) (KeepBut.of_grown hg g) (Kd.R_base2 HO_7.out)); have n3_ := as0 (ho); clear HI0; clear HB; clear HK; clear HO_7; have HI0 := n0_; have HB := n1_; have HK := n2_; have HO524 := n3_; clear n0_ n1_ n2_ n3_; clear ho hb hg hat))
       go_roundg k1
       case measure => have := HK1.out; omega
       case rel => exact ⟨(wrap64 (x2_1 - 1)), (y522), (t520), (t521), ea_, H', ⟨by have := HK1.out; omega⟩, ⟨rs HO524⟩, ⟨by repeat (first | (with_reducible first | exact HI0.out | apply IsS99.alloc | apply IsS99.drewN | apply IsS99.drew | apply IsS99.set_1 | apply IsS99.set_2) | exact HI0.out)⟩, ⟨by repeat (first | (with_reducible first | exact HK.out | apply KeepBut.set_ | apply keep_drewN | apply keep_drew | apply keep_alloc) | exact HK.out)⟩, ⟨by repeat (first | (with_reducible first | exact HB.out | apply below_alloc | apply pw_below_drewN | apply below_drew1 | refine below_set ?_ (IsS99.ge HI0.out)) | exact HB.out)⟩⟩
      ·
       rw [if_neg c17] at H
       exact absurd H (by simp)
     ·
      rw [if_neg c15] at H
      have c15b0 : decide (0 < t516) = false := decide_eq_false c15
      clear c15
      by_cases c21 : x7_1.length < 17592186044416
      ·
       rw [if_pos c21] at H
       have LMc21 := as0 c21
       clear c21
       obtain ⟨y525, hy525⟩ : ∃ y_ : List Int, y_ = (x7_1 ++ [0]) := ⟨_, rfl⟩
       replace H : (spec_l01DrawList.l0 k1 a1 (wrap64 (x2_1 - 1)) y525 t507 s0_0 t517 t518) = some (r1, r2, r3) := by first | (rw [hy525]; with_reducible exact H) | (have H2_ := (Option.bind_some _ _).symm.trans H; rw [hy525]; with_reducible exact H2_) | (have H2_ := (Option.bind_some _ _).symm.trans H; with_reducible exact H2_) | with_reducible exact H | (rw [hy525]; exact H) | exact H
       have Ny525 := as0 hy525
       clear hy525
       have H' := as0 H
       clear H
       go_wp2_with (first | (go_at_call 107; (with_reducible refine (spec_l01Next.calls g s0_0 x1001_1 x1002_1 3 t516 t517 t518 w0 _ ?side1 ?side2 A14.out).mono ?_); (case side1 => repeat (first | (with_reducible first | exact HI0.out | apply IsS99.alloc | apply IsS99.drewN | apply IsS99.drew | apply IsS99.set_1 | apply IsS99.set_2) | exact HI0.out)); (case side2 => repeat (first | (with_reducible first | exact HB.out | apply below_alloc | apply pw_below_drewN | apply below_drew1 | refine below_set ?_ (IsS99.ge HI0.out)) | exact HB.out)); rintro e w22 ⟨rfl, hi, hb, hk⟩; have n0_ := as0 (Kd.R_mono (Kd.R_keep (IsS99.apart (show IsS99 w0 _ g s0_0 x1001_1 x1002_1 from by repeat (first | (with_reducible first | exact HI0.out | apply IsS99.alloc | apply IsS99.drewN | apply IsS99.drew | apply IsS99.set_1 | apply IsS99.set_2) | exact HI0.out)) (rs HO_7) (by decide)) hk (fun _ h => h.2)) (fun _ h => h.1)); have n1_ := as0 (KeepBut.trans (by repeat (first | (with_reducible first | exact HK.out | apply KeepBut.set_ | apply keep_drewN | apply keep_drew | apply keep_alloc) | exact HK.out)) hk (.inl rfl)); have n2_ := as0 (hb); have n3_ := as0 (hi); clear HO_7; clear HK; clear HB; clear HI0; have HO_7 := n0_; have HK := n1_; have HB := n2_; have HI0 := n3_; clear n0_ n1_ n2_ n3_; (try clear hb); (try clear hb2); (try clear hk); (try clear hi)) | ((with_reducible refine gate_builtin (b := .append) (xs := #[.tmp 29, .tmp 30]) rfl ?_); at_builtin; refine Kd.R_append (Kd.int .i64) w.heap.size rfl (.tmp 29) (.tmp 30) 22 2 (.int .i64 0) 8 rfl Try.underlying22 info2 rfl (by decide) (by omega) u7 x7_1 0 [.int .i64 0] (fun _ => True) (fun _ => False) rfl rfl ?aP (fun _ hk => hk.elim) ?aF ?aO (Below.refl _ _) ?aS ?aL ?_; (case aP => exact rfl); (case aF => exact (fun _ _ => trivial)); (case aO => exact (rs HO_7)); (case aS => exact (keep_size (w := w) (g := g) (row := none) (by repeat (first | (with_reducible first | exact HK.out | apply KeepBut.set_ | apply keep_drewN | apply keep_drew | apply keep_alloc) | exact HK.out)))); (case aL => have := LMc21.out; omega); intro v526 w23 ho hb hg hat; rw [← Ny525.out] at ho; have n0_ := as0 (IsS99.grown (by repeat (first | (with_reducible first | exact HI0.out | apply IsS99.alloc | apply IsS99.drewN | apply IsS99.drew | apply IsS99.set_1 | apply IsS99.set_2) | exact HI0.out)) hg (IsS99.own_ne HI0.out HO_7.out (by decide))); have n1_ := as0 (below_weaken (by repeat (first | (with_reducible first | exact HB.out | apply below_alloc | apply pw_below_drewN | apply below_drew1 | refine below_set ?_ (IsS99.ge HI0.out)) | exact HB.out)) HL.out hb); have n2_ := as0 (KeepBut.trans (by repeat (first | (with_reducible first | exact HK.out | apply KeepBut.set_ | apply keep_drewN | apply keep_drew | apply keep_alloc) | exact HK.out)) (KeepBut.of_grown hg g) (Kd.R_base2 HO_7.out)); have n3_ := as0 (ho); clear HI0; clear HB; clear HK; clear HO_7; have HI0 := n0_; have HB := n1_; have HK := n2_; have HO527 := n3_; clear n0_ n1_ n2_ n3_; clear ho hb hg hat))
       go_roundg k1
       case measure => have := HK1.out; omega
       case rel => exact ⟨(wrap64 (x2_1 - 1)), (y525), (t517), (t518), ea_, H', ⟨by have := HK1.out; omega⟩, ⟨rs HO527⟩, ⟨by repeat (first | (with_reducible first | exact HI0.out | apply IsS99.alloc | apply IsS99.drewN | apply IsS99.drew | apply IsS99.set_1 | apply IsS99.set_2) | exact HI0.out)⟩, ⟨by repeat (first | (with_reducible first | exact HK.out | apply KeepBut.set_ | apply keep_drewN | apply keep_drew | apply keep_alloc) | exact HK.out)⟩, ⟨by repeat (first | (with_reducible first | exact HB.out | apply below_alloc | apply pw_below_drewN | apply below_drew1 | refine below_set ?_ (IsS99.ge HI0.out)) | exact HB.out)⟩⟩
      ·
       rw [if_neg c21] at H
       exact absurd H (by simp)
   ·
    rw [if_neg c8] at H
    have c8b0 : decide (0 < x2_1) = false := decide_eq_false c8
    clear c8
    simp only [Option.some.injEq, Prod.mk.injEq] at H
    obtain ⟨rfl, rfl, rfl⟩ := H
    go_wp2
    go_ret
    exact ⟨_, er_, rs HO_7, by repeat (first | (with_reducible first | exact HI0.out | apply IsS99.alloc | apply IsS99.drewN | apply IsS99.drew | apply IsS99.set_1 | apply IsS99.set_2) | exact HI0.out), by repeat (first | (with_reducible first | exact HB.out | apply below_alloc | apply pw_below_drewN | apply below_drew1 | refine below_set ?_ (IsS99.ge HI0.out)) | exact HB.out), by repeat (first | (with_reducible first | exact HK.out | apply KeepBut.set_ | apply keep_drewN | apply keep_drew | apply keep_alloc) | exact HK.out)⟩
def spec_l01DrawPoly.f (k : Nat) (s0_0 : List Int) (s0_1 : Int) (s0_2 : Int) (a1 : Int) (a2 : Int) : Option (List Int × Int × Int) := (spec_l01Next.f s0_0 s0_1 s0_2 (wrap64 (a2 + 2))).bind fun bt528 => ((spec_l01DrawList.f k s0_0 bt528.2.1 bt528.2.2 a1 bt528.1).bind fun bt531 => ((spec_l01Trim.f k bt531.1).bind fun t536 => (some (t536, bt531.2.1, bt531.2.2))))
set_option maxHeartbeats 8000000 in
set_option maxRecDepth 100000 in
theorem spec_l01DrawPoly.calls (k : Nat) (g : Nat) (s0_0 : List Int) (s0_1 : Int) (s0_2 : Int) (a1 : Int) (a2 : Int) (r1 : List Int) (r2 : Int) (r3 : Int) (w0 w : World) (hI : IsS99 w0 w g s0_0 s0_1 s0_2) (hB : Below w0.heap.size w0 w) (h : spec_l01DrawPoly.f k s0_0 s0_1 s0_2 a1 a2 = some (r1, r2, r3)) :
  Calls Try.prog 106 #[.pointer (some ⟨g, 0, none⟩), .int .i64 a1, .int .i64 a2] w fun e w' => ∃ v0_ : Value, e = .returned (v0_) ∧ Kd.R (Kd.int .i64) 2 w' w.heap.size (fun _ => True) v0_ r1 ∧ IsS99 w0 w' g s0_0 r2 r3 ∧ Below w0.heap.size w0 w' ∧ KeepBut w w' g none := by
 have HI0 := as0 hI
 have HK := as0 (KeepBut.refl w g none)
 have HL := as0 hB.size
 clear hI
 have HW0 := as0 hB.size
 have HB := as0 hB
 clear hB
 have H : ((spec_l01Next.f s0_0 s0_1 s0_2 (wrap64 (a2 + 2))).bind fun bt528 => ((spec_l01DrawList.f k s0_0 bt528.2.1 bt528.2.2 a1 bt528.1).bind fun bt531 => ((spec_l01Trim.f k bt531.1).bind fun t536 => (some (t536, bt531.2.1, bt531.2.2))))) = some (r1, r2, r3) := h
 clear h
 replace H := Option.bind_eq_some_iff.mp H
 obtain ⟨⟨t528, t529, t530⟩, A40, H⟩ := H
 have A4 := as0 A40
 clear A40
 replace H := Option.bind_eq_some_iff.mp H
 obtain ⟨⟨t531, t534, t535⟩, A50, H⟩ := H
 have A5 := as0 A50
 clear A50
 replace H := Option.bind_eq_some_iff.mp H
 obtain ⟨t536, A60, H⟩ := H
 have A6 := as0 A60
 clear A60
 simp only [Option.some.injEq, Prod.mk.injEq] at H
 obtain ⟨rfl, rfl, rfl⟩ := H
 go_enter Try.func106, Try.ntmps106
 go_wp2_with (first | ((with_reducible refine gate_callee (f := 107) rfl ?_); refine goesM_ (some 12) rfl rfl Try.func107 #[.pointer (some ⟨g, 0, none⟩), .int .i64 (wrap64 (a2 + 2))] rfl ?_; (with_reducible refine (spec_l01Next.calls g s0_0 s0_1 s0_2 (wrap64 (a2 + 2)) t528 t529 t530 w0 _ ?side1 ?side2 A4.out).mono ?_); (case side1 => repeat (first | (with_reducible first | exact HI0.out | apply IsS99.alloc | apply IsS99.drewN | apply IsS99.drew | apply IsS99.set_1 | apply IsS99.set_2) | exact HI0.out)); (case side2 => repeat (first | (with_reducible first | exact HB.out | apply below_alloc | apply pw_below_drewN | apply below_drew1 | refine below_set ?_ (IsS99.ge HI0.out)) | exact HB.out)); rintro e w7 ⟨rfl, hi, hb, hk⟩; refine ⟨_, rfl, ?_⟩; have n0_ := as0 (KeepBut.trans (by repeat (first | (with_reducible first | exact HK.out | apply KeepBut.set_ | apply keep_drewN | apply keep_drew | apply keep_alloc) | exact HK.out)) hk (.inl rfl)); have n1_ := as0 (hb); have n2_ := as0 (hi); clear HK; clear HB; clear HI0; have HK := n0_; have HB := n1_; have HI0 := n2_; clear n0_ n1_ n2_; (try clear hb); (try clear hb2); (try clear hk); (try clear hi)) | ((with_reducible refine gate_callee (f := 123) rfl ?_); refine goesM_ (some 13) rfl rfl Try.func123 #[.pointer (some ⟨g, 0, none⟩), .int .i64 a1, .int .i64 t528] rfl ?_; (with_reducible refine (spec_l01DrawList.calls k g s0_0 t529 t530 a1 t528 t531 t534 t535 w0 _ ?side1 ?side2 A5.out).mono ?_); (case side1 => repeat (first | (with_reducible first | exact HI0.out | apply IsS99.alloc | apply IsS99.drewN | apply IsS99.drew | apply IsS99.set_1 | apply IsS99.set_2) | exact HI0.out)); (case side2 => repeat (first | (with_reducible first | exact HB.out | apply below_alloc | apply pw_below_drewN | apply below_drew1 | refine below_set ?_ (IsS99.ge HI0.out)) | exact HB.out)); rintro e w8 ⟨v532, rfl, ho0, hi, hb, hk⟩; refine ⟨_, rfl, ?_⟩; have n0_ := as0 (Kd.R_lower ho0 (keep_size (w := w) (g := g) (row := none) (by repeat (first | (with_reducible first | exact HK.out | apply KeepBut.set_ | apply keep_drewN | apply keep_drew | apply keep_alloc) | exact HK.out)))); have n1_ := as0 (KeepBut.trans (by repeat (first | (with_reducible first | exact HK.out | apply KeepBut.set_ | apply keep_drewN | apply keep_drew | apply keep_alloc) | exact HK.out)) hk (.inl rfl)); have n2_ := as0 (hb); have n3_ := as0 (hi); clear HK; clear HB; clear HI0; have HO533 := n0_; have HK := n1_; have HB := n2_; have HI0 := n3_; clear n0_ n1_ n2_ n3_; (try clear hb); (try clear hb2); (try clear hk); (try clear hi); (try clear ho0); obtain ⟨Ao9, co9, eo9⟩ := Kd.R_slice HO533.out; subst eo9) | ((with_reducible refine gate_callee (f := 82) rfl ?_); refine goesM_ (some 14) rfl rfl Try.func82 #[.slice Ao9 t531.length co9] rfl ?_; (with_reducible refine (spec_l01Trim.calls k _ _ t531 t536 _ ?side1 ?side2 A6.out).mono ?_); (case side1 => exact cs ((Kd.R_reads' HO533.out).2.2)); (case side2 => exact (Kd.R_reads' HO533.out).2.1); rintro e w10 ⟨v537, rfl, ho0, hb⟩; refine ⟨_, rfl, ?_⟩; have n0_ := as0 (Kd.R_elder' (rs HO533) (Kd.R_base ho0) hb); have n1_ := as0 (Kd.R_lower (Kd.R_new' ho0 (Kd.R_lt (rs HO533))) (keep_size (w := w) (g := g) (row := none) (by repeat (first | (with_reducible first | exact HK.out | apply KeepBut.set_ | apply keep_drewN | apply keep_drew | apply keep_alloc) | exact HK.out)))); have n2_ := as0 (IsS99.below (by repeat (first | (with_reducible first | exact HI0.out | apply IsS99.alloc | apply IsS99.drewN | apply IsS99.drew | apply IsS99.set_1 | apply IsS99.set_2) | exact HI0.out)) hb); have n3_ := as0 (KeepBut.trans (by repeat (first | (with_reducible first | exact HK.out | apply KeepBut.set_ | apply keep_drewN | apply keep_drew | apply keep_alloc) | exact HK.out)) (KeepBut.of_below hb g none) (.inl rfl)); have n4_ := as0 (below_step (by repeat (first | (with_reducible first | exact HB.out | apply below_alloc | apply pw_below_drewN | apply below_drew1 | refine below_set ?_ (IsS99.ge HI0.out)) | exact HB.out)) hb); clear HO533; clear HI0; clear HK; clear HB; have HO533 := n0_; have HO538 := n1_; have HI0 := n2_; have HK := n3_; have HB := n4_; clear n0_ n1_ n2_ n3_ n4_; (try clear hb); (try clear hb2); (try clear hk); (try clear hi); (try clear ho0)))
 go_ret
 exact ⟨_, er_, by (with_reducible repeat (first | apply Kd.R_alloc | apply Kd.R_drewN | apply Kd.R_drew)); exact Kd.R_mono HO538.out (fun _ hk => trivial), by repeat (first | (with_reducible first | exact HI0.out | apply IsS99.alloc | apply IsS99.drewN | apply IsS99.drew | apply IsS99.set_1 | apply IsS99.set_2) | exact HI0.out), by repeat (first | (with_reducible first | exact HB.out | apply below_alloc | apply pw_below_drewN | apply below_drew1 | refine below_set ?_ (IsS99.ge HI0.out)) | exact HB.out), by repeat (first | (with_reducible first | exact HK.out | apply KeepBut.set_ | apply keep_drewN | apply keep_drew | apply keep_alloc) | exact HK.out)⟩
def spec_l01Fine.f (k : Nat) (a0 : Int) : Option (Int) := (spec_l01Prime.f k a0).bind fun t633 => (if t633 = true then (some a0) else (some 7))
set_option maxHeartbeats 8000000 in
set_option maxRecDepth 100000 in
theorem spec_l01Fine.calls (k : Nat) (a0 : Int) (r : Int) (w : World) (h : spec_l01Fine.f k a0 = some r) :
  Calls Try.prog 105 #[.int .i64 a0] w fun e w' => e = .returned (.int .i64 r) ∧ Drawn0 w w' := by
 have H : ((spec_l01Prime.f k a0).bind fun t633 => (if t633 = true then (some a0) else (some 7))) = some r := h
 clear h
 replace H := Option.bind_eq_some_iff.mp H
 obtain ⟨t633, A20, H⟩ := H
 have A2 := as0 A20
 clear A20
 by_cases c3 : t633 = true
 ·
  subst c3
  have H1 : (some a0) = some r := by rw [if_pos rfl] at H; exact H
  clear H
  have H := H1
  clear H1
  obtain rfl := Option.some.inj H
  go_enter Try.func105, Try.ntmps105
  go_wp2_with (first | ((with_reducible refine gate_callee (f := 65) rfl ?_); refine goesM_ (some 4) rfl rfl Try.func65 #[.int .i64 a0] rfl ?_; (with_reducible refine (spec_l01Prime.calls k a0 true _ A2.out).mono ?_); rintro e w' ⟨rfl, ⟨nd, rfl⟩⟩; refine ⟨_, rfl, ?_⟩))
  go_ret
  exact ⟨ea_, dr_⟩
 ·
  replace c3 := Bool.eq_false_iff.mpr c3
  subst c3
  have H1 : (some 7) = some r := by rw [if_neg (show ¬ (false = true) by decide)] at H; exact H
  clear H
  have H := H1
  clear H1
  obtain rfl := Option.some.inj H
  go_enter Try.func105, Try.ntmps105
  go_wp2_with (first | ((with_reducible refine gate_callee (f := 65) rfl ?_); refine goesM_ (some 4) rfl rfl Try.func65 #[.int .i64 a0] rfl ?_; (with_reducible refine (spec_l01Prime.calls k a0 false _ A2.out).mono ?_); rintro e w' ⟨rfl, ⟨nd, rfl⟩⟩; refine ⟨_, rfl, ?_⟩))
  go_ret
  exact ⟨ea_, dr_⟩
def spec_l01Pick.f (s0_0 : List Int) (s0_1 : Int) (s0_2 : Int) (l1 : List Int) : Option (Int × Int × Int) := (spec_l01Next.f s0_0 s0_1 s0_2 (l1.length : Int)).bind fun bt539 => (if 0 ≤ bt539.1 then (if bt539.1 < (l1.length : Int) then (some (rd l1 bt539.1, bt539.2.1, bt539.2.2)) else (none)) else (none))
set_option maxHeartbeats 8000000 in
set_option maxRecDepth 100000 in
theorem spec_l01Pick.calls (g : Nat) (s0_0 : List Int) (s0_1 : Int) (s0_2 : Int) (A1 : Option Addr) (c1 : Nat) (l1 : List Int) (r1 : Int) (r2 : Int) (r3 : Int) (w0 w : World) (hI : IsS99 w0 w g s0_0 s0_1 s0_2) (hB : Below w0.heap.size w0 w) (hr1 : Kd.C (Kd.int .i64) w A1 l1.length l1) (hc1 : l1.length ≤ c1) (hf1 : ∀ ad, A1 = some ad → 0 < l1.length → ad.block ≠ g) (h : spec_l01Pick.f s0_0 s0_1 s0_2 l1 = some (r1, r2, r3)) :
  Calls Try.prog 121 #[.pointer (some ⟨g, 0, none⟩), .slice A1 l1.length c1] w fun e w' => e = .returned (.int .i64 r1) ∧ IsS99 w0 w' g s0_0 r2 r3 ∧ Below w0.heap.size w0 w' ∧ KeepBut w w' g none := by
 have HR1 := as0 hr1
 have HC1 := as0 hc1
 clear hr1 hc1
 have HI0 := as0 hI
 have HK := as0 (KeepBut.refl w g none)
 have HL := as0 hB.size
 clear hI
 have HW0 := as0 hB.size
 have HB := as0 hB
 clear hB
 have H : ((spec_l01Next.f s0_0 s0_1 s0_2 (l1.length : Int)).bind fun bt539 => (if 0 ≤ bt539.1 then (if bt539.1 < (l1.length : Int) then (some (rd l1 bt539.1, bt539.2.1, bt539.2.2)) else (none)) else (none))) = some (r1, r2, r3) := h
 clear h
 replace H := Option.bind_eq_some_iff.mp H
 obtain ⟨⟨t539, t540, t541⟩, A30, H⟩ := H
 have A3 := as0 A30
 clear A30
 by_cases c4 : 0 ≤ t539
 ·
  rw [if_pos c4] at H
  have c4b0 : decide (0 ≤ t539) = true := decide_eq_true c4
  clear c4
  by_cases c5 : t539 < (l1.length : Int)
  ·
   rw [if_pos c5] at H
   have c5b0 : decide (t539 < (l1.length : Int)) = true := decide_eq_true c5
   clear c5
   simp only [Option.some.injEq, Prod.mk.injEq] at H
   obtain ⟨rfl, rfl, rfl⟩ := H
   go_enter Try.func121, Try.ntmps121
   go_wp2_with (first | ((with_reducible refine gate_callee (f := 107) rfl ?_); refine goesM_ (some 9) rfl rfl Try.func107 #[.pointer (some ⟨g, 0, none⟩), .int .i64 (l1.length : Int)] rfl ?_; (with_reducible refine (spec_l01Next.calls g s0_0 s0_1 s0_2 (l1.length : Int) t539 t540 t541 w0 _ ?side1 ?side2 A3.out).mono ?_); (case side1 => repeat (first | (with_reducible first | exact HI0.out | apply IsS99.alloc | apply IsS99.drewN | apply IsS99.drew | apply IsS99.set_1 | apply IsS99.set_2) | exact HI0.out)); (case side2 => repeat (first | (with_reducible first | exact HB.out | apply below_alloc | apply pw_below_drewN | apply below_drew1 | refine below_set ?_ (IsS99.ge HI0.out)) | exact HB.out)); rintro e w6 ⟨rfl, hi, hb, hk⟩; refine ⟨_, rfl, ?_⟩; have n0_ := as0 (KeepBut.trans (by repeat (first | (with_reducible first | exact HK.out | apply KeepBut.set_ | apply keep_drewN | apply keep_drew | apply keep_alloc) | exact HK.out)) hk (.inl rfl)); have n1_ := as0 (hb); have n2_ := as0 (hi); clear HK; clear HB; clear HI0; have HK := n0_; have HB := n1_; have HI0 := n2_; clear n0_ n1_ n2_; (try clear hb); (try clear hb2); (try clear hk); (try clear hi); have p542 : 0 ≤ (t539 : Int) := oa_; have q542 : t539 < (l1.length : Int) := oa_; obtain ⟨ad542, e542, hx542_0⟩ := Kd.at_int HR1.out t539 p542 q542; cases e542; replace hx542_0 := keep_cell HK.out hx542_0 (by first | (rw [add_block]; exact hf1 _ rfl (by omega)) | exact hf1 _ rfl (by omega) | exact hf1 ad542 rfl (by omega)); replace p542 := eq_true p542; replace q542 := eq_true q542))
   go_ret
   exact ⟨er_, by repeat (first | (with_reducible first | exact HI0.out | apply IsS99.alloc | apply IsS99.drewN | apply IsS99.drew | apply IsS99.set_1 | apply IsS99.set_2) | exact HI0.out), by repeat (first | (with_reducible first | exact HB.out | apply below_alloc | apply pw_below_drewN | apply below_drew1 | refine below_set ?_ (IsS99.ge HI0.out)) | exact HB.out), by repeat (first | (with_reducible first | exact HK.out | apply KeepBut.set_ | apply keep_drewN | apply keep_drew | apply keep_alloc) | exact HK.out)⟩
  ·
   rw [if_neg c5] at H
   exact absurd H (by simp)
 ·
  rw [if_neg c4] at H
  exact absurd H (by simp)
def spec_l01DrawPrime.f (s0_0 : List Int) (s0_1 : Int) (s0_2 : Int) : Option (Int × Int × Int) := (spec_l01Pick.f s0_0 s0_1 s0_2 (([2, 3, 5, 7, 7, 11, 13, 17, 31, 101, 997, 10007] : List Int))).bind fun bt546 => (some (bt546.1, bt546.2.1, bt546.2.2))
set_option maxHeartbeats 8000000 in
set_option maxRecDepth 100000 in
theorem spec_l01DrawPrime.calls (g : Nat) (s0_0 : List Int) (s0_1 : Int) (s0_2 : Int) (r1 : Int) (r2 : Int) (r3 : Int) (w0 w : World) (hI : IsS99 w0 w g s0_0 s0_1 s0_2) (hB : Below w0.heap.size w0 w) (h : spec_l01DrawPrime.f s0_0 s0_1 s0_2 = some (r1, r2, r3)) :
  Calls Try.prog 120 #[.pointer (some ⟨g, 0, none⟩)] w fun e w' => e = .returned (.int .i64 r1) ∧ IsS99 w0 w' g s0_0 r2 r3 ∧ Below w0.heap.size w0 w' ∧ KeepBut w w' g none := by
 have HI0 := as0 hI
 have HK := as0 (KeepBut.refl w g none)
 have HL := as0 hB.size
 clear hI
 have HW0 := as0 hB.size
 have HB := as0 hB
 clear hB
 have H : ((spec_l01Pick.f s0_0 s0_1 s0_2 (([2, 3, 5, 7, 7, 11, 13, 17, 31, 101, 997, 10007] : List Int))).bind fun bt546 => (some (bt546.1, bt546.2.1, bt546.2.2))) = some (r1, r2, r3) := h
 clear h
 obtain ⟨y543, hy543⟩ : ∃ y_ : List Int, y_ = (([2, 3, 5, 7, 7, 11, 13, 17, 31, 101, 997, 10007] : List Int)) := ⟨_, rfl⟩
 replace H : ((spec_l01Pick.f s0_0 s0_1 s0_2 y543).bind fun bt546 => (some (bt546.1, bt546.2.1, bt546.2.2))) = some (r1, r2, r3) := by first | (rw [hy543]; with_reducible exact H) | (have H2_ := (Option.bind_some _ _).symm.trans H; rw [hy543]; with_reducible exact H2_) | (have H2_ := (Option.bind_some _ _).symm.trans H; with_reducible exact H2_) | with_reducible exact H | (rw [hy543]; exact H) | exact H
 have Ny543 := as0 hy543
 clear hy543
 replace H := Option.bind_eq_some_iff.mp H
 obtain ⟨⟨t546, t547, t548⟩, A20, H⟩ := H
 have A2 := as0 A20
 clear A20
 simp only [Option.some.injEq, Prod.mk.injEq] at H
 obtain ⟨rfl, rfl, rfl⟩ := H
 go_enter Try.func120, Try.ntmps120
 go_wp2_with (first | ((with_reducible refine gate_dst (N := 4) rfl ?_); refine Kd.R_lit (Kd.int .i64) _ 2 ?hg (N := 4) ?hd (xs := ([2, 3, 5, 7, 7, 11, 13, 17, 31, 101, 997, 10007] : List Int)) (inner := [.int .i64 2, .int .i64 3, .int .i64 5, .int .i64 7, .int .i64 7, .int .i64 11, .int .i64 13, .int .i64 17, .int .i64 31, .int .i64 101, .int .i64 997, .int .i64 10007]) (ok := fun _ => True) (okp := fun _ => True) ?hr ?hp (fun _ hk => hk) trivial (Below.refl _ _) (Nat.le_refl _) (by simp) ?_; (case hd => rfl); (case hg => rfl); (case hr => first | (go_simp; done) | (go_simp; rfl)); (case hp => exact (Reps.one (show Kd.M (Kd.int .i64) _ _ _ 2 [.int .i64 2] from rfl) (Reps.one (show Kd.M (Kd.int .i64) _ _ _ 3 [.int .i64 3] from rfl) (Reps.one (show Kd.M (Kd.int .i64) _ _ _ 5 [.int .i64 5] from rfl) (Reps.one (show Kd.M (Kd.int .i64) _ _ _ 7 [.int .i64 7] from rfl) (Reps.one (show Kd.M (Kd.int .i64) _ _ _ 7 [.int .i64 7] from rfl) (Reps.one (show Kd.M (Kd.int .i64) _ _ _ 11 [.int .i64 11] from rfl) (Reps.one (show Kd.M (Kd.int .i64) _ _ _ 13 [.int .i64 13] from rfl) (Reps.one (show Kd.M (Kd.int .i64) _ _ _ 17 [.int .i64 17] from rfl) (Reps.one (show Kd.M (Kd.int .i64) _ _ _ 31 [.int .i64 31] from rfl) (Reps.one (show Kd.M (Kd.int .i64) _ _ _ 101 [.int .i64 101] from rfl) (Reps.one (show Kd.M (Kd.int .i64) _ _ _ 997 [.int .i64 997] from rfl) (Reps.one (show Kd.M (Kd.int .i64) _ _ _ 10007 [.int .i64 10007] from rfl) (Reps.none _ _)))))))))))))); intro v544 w3 ho4 hb hg_ hnew_; clear hg_ hnew_; (first | rw [← Ny543.out] at ho4 | (simp only [Int.reduceToNat] at ho4; rw [← Ny543.out] at ho4)); have n0_ := as0 (Kd.R_lower ho4 (keep_size (w := w) (g := g) (row := none) (by repeat (first | (with_reducible first | exact HK.out | apply KeepBut.set_ | apply keep_drewN | apply keep_drew | apply keep_alloc) | exact HK.out)))); have n1_ := as0 (IsS99.below (by repeat (first | (with_reducible first | exact HI0.out | apply IsS99.alloc | apply IsS99.drewN | apply IsS99.drew | apply IsS99.set_1 | apply IsS99.set_2) | exact HI0.out)) hb); have n2_ := as0 (KeepBut.trans (by repeat (first | (with_reducible first | exact HK.out | apply KeepBut.set_ | apply keep_drewN | apply keep_drew | apply keep_alloc) | exact HK.out)) (KeepBut.of_below hb g none) (.inl rfl)); have n3_ := as0 (below_step (by repeat (first | (with_reducible first | exact HB.out | apply below_alloc | apply pw_below_drewN | apply below_drew1 | refine below_set ?_ (IsS99.ge HI0.out)) | exact HB.out)) hb); clear HI0; clear HK; clear HB; have HO545 := n0_; have HI0 := n1_; have HK := n2_; have HB := n3_; clear n0_ n1_ n2_ n3_; clear hb ho4; obtain ⟨Ao5, co5, eo5⟩ := Kd.R_slice HO545.out; subst eo5) | ((with_reducible refine gate_callee (f := 121) rfl ?_); refine goesM_ (some 5) rfl rfl Try.func121 #[.pointer (some ⟨g, 0, none⟩), .slice Ao5 y543.length co5] rfl ?_; (with_reducible refine (spec_l01Pick.calls g s0_0 s0_1 s0_2 _ _ y543 t546 t547 t548 w0 _ ?side1 ?side2 ?side3 ?side4 ?side5 A2.out).mono ?_); (case side1 => repeat (first | (with_reducible first | exact HI0.out | apply IsS99.alloc | apply IsS99.drewN | apply IsS99.drew | apply IsS99.set_1 | apply IsS99.set_2) | exact HI0.out)); (case side2 => repeat (first | (with_reducible first | exact HB.out | apply below_alloc | apply pw_below_drewN | apply below_drew1 | refine below_set ?_ (IsS99.ge HI0.out)) | exact HB.out)); (case side3 => exact cs ((Kd.R_reads' HO545.out).2.2)); (case side4 => exact (Kd.R_reads' HO545.out).2.1); (case side5 => exact far_slice (IsS99.own_ne HI0.out HO545.out (by decide))); rintro e w6 ⟨rfl, hi, hb, hk⟩; refine ⟨_, rfl, ?_⟩; have n0_ := as0 (Kd.R_mono (Kd.R_keep (IsS99.apart (show IsS99 w0 _ g s0_0 s0_1 s0_2 from by repeat (first | (with_reducible first | exact HI0.out | apply IsS99.alloc | apply IsS99.drewN | apply IsS99.drew | apply IsS99.set_1 | apply IsS99.set_2) | exact HI0.out)) (rs HO545) (by decide)) hk (fun _ h => h.2)) (fun _ h => h.1)); have n1_ := as0 (KeepBut.trans (by repeat (first | (with_reducible first | exact HK.out | apply KeepBut.set_ | apply keep_drewN | apply keep_drew | apply keep_alloc) | exact HK.out)) hk (.inl rfl)); have n2_ := as0 (hb); have n3_ := as0 (hi); clear HO545; clear HK; clear HB; clear HI0; have HO545 := n0_; have HK := n1_; have HB := n2_; have HI0 := n3_; clear n0_ n1_ n2_ n3_; (try clear hb); (try clear hb2); (try clear hk); (try clear hi)))
 go_ret
 exact ⟨er_, by repeat (first | (with_reducible first | exact HI0.out | apply IsS99.alloc | apply IsS99.drewN | apply IsS99.drew | apply IsS99.set_1 | apply IsS99.set_2) | exact HI0.out), by repeat (first | (with_reducible first | exact HB.out | apply below_alloc | apply pw_below_drewN | apply below_drew1 | refine below_set ?_ (IsS99.ge HI0.out)) | exact HB.out), by repeat (first | (with_reducible first | exact HK.out | apply KeepBut.set_ | apply keep_drewN | apply keep_drew | apply keep_alloc) | exact HK.out)⟩
def spec_l06Of.l0 : Nat → Int → List Int → List Int → Int → Option (List Int)
 | 0, _, _, _, _ => none
 | k + 1, x0, x1, x5, x6 => if x6 < (x1.length : Int) then (if 0 ≤ x6 then ((spec_l01Mod.f x0 (wrap64 (-(rd x1 x6)))).bind fun t553 => ((spec_l01Times.f k x0 x5 (([t553, 1] : List Int))).bind fun t557 => (spec_l06Of.l0 k x0 x1 t557 (wrap64 (x6 + 1))))) else (none)) else (some x5)
def spec_l06Of.f (k : Nat) (a0 : Int) (l1 : List Int) : Option (List Int) := spec_l06Of.l0 k a0 l1 (([1] : List Int)) 0
set_option maxHeartbeats 8000000 in
set_option maxRecDepth 100000 in
theorem spec_l06Of.calls (k : Nat) (a0 : Int) (A1 : Option Addr) (c1 : Nat) (l1 : List Int) (r : List Int) (w : World) (hr1 : Kd.C (Kd.int .i64) w A1 l1.length l1) (hc1 : l1.length ≤ c1) (h : spec_l06Of.f k a0 l1 = some r) :
  Calls Try.prog 122 #[.int .i64 a0, .slice A1 l1.length c1] w fun e w' => ∃ v0_ : Value, e = .returned (v0_) ∧ Kd.R (Kd.int .i64) 2 w' w.heap.size (fun _ => True) v0_ r ∧ Below w.heap.size w w' := by
 have HR1 := as0 hr1
 have HC1 := as0 hc1
 clear hr1 hc1
 have HB := as0 (Below.refl w.heap.size w)
 have H : (spec_l06Of.l0 k a0 l1 (([1] : List Int)) 0) = some r := h
 clear h
 obtain ⟨y549, hy549⟩ : ∃ y_ : List Int, y_ = (([1] : List Int)) := ⟨_, rfl⟩
 replace H : (spec_l06Of.l0 k a0 l1 y549 0) = some r := by first | (rw [hy549]; with_reducible exact H) | (have H2_ := (Option.bind_some _ _).symm.trans H; rw [hy549]; with_reducible exact H2_) | (have H2_ := (Option.bind_some _ _).symm.trans H; with_reducible exact H2_) | with_reducible exact H | (rw [hy549]; exact H) | exact H
 have Ny549 := as0 hy549
 clear hy549
 have H' := as0 H
 clear H
 go_enter Try.func122, Try.ntmps122
 go_wp2_with (first | ((with_reducible refine gate_dst (N := 7) rfl ?_); refine Kd.R_lit (Kd.int .i64) _ 2 ?hg (N := 7) ?hd (xs := ([1] : List Int)) (inner := [.int .i64 1]) (ok := fun _ => True) (okp := fun _ => True) ?hr ?hp (fun _ hk => hk) trivial (Below.refl _ _) (Nat.le_refl _) (by simp) ?_; (case hd => rfl); (case hg => rfl); (case hr => first | (go_simp; done) | (go_simp; rfl)); (case hp => exact (Reps.one (show Kd.M (Kd.int .i64) _ _ _ 1 [.int .i64 1] from rfl) (Reps.none _ _))); intro v550 w3 ho4 hb hg_ hnew_; clear hg_ hnew_; (first | rw [← Ny549.out] at ho4 | (simp only [Int.reduceToNat] at ho4; rw [← Ny549.out] at ho4)); have n0_ := as0 (Kd.R_lower ho4 (below_size (bs HB))); have n1_ := as0 (below_step (bs HB) hb); clear HB; have HO551 := n0_; have HB := n1_; clear n0_ n1_; clear hb ho4))
 go_loopg [5, 6] k (fun kq v5 v6 w' => ∃ (x5_1 : List Int) (x6_1 : Int), v6 = .int .i64 x6_1 ∧ Aside0 (spec_l06Of.l0 kq a0 l1 x5_1 x6_1 = some r) ∧ Aside0 (kq ≤ k) ∧ Aside0 (Kd.R (Kd.int .i64) 2 w' w.heap.size (fun _ => True) v5 x5_1) ∧ Aside0 (Below w.heap.size w w'))
 case atStart => exact ⟨(y549), (0), ea_, H', ⟨Nat.le_refl _⟩, ⟨rs HO551⟩, ⟨bs HB⟩⟩
 case round =>
  clear H'
  try clear c1
  try clear p2
  obtain ⟨x5_1, x6_1, rfl, HA, HK1, HO_5, HB⟩ := hrel
  cases gk with
  | zero => exact absurd HA.out (by simp [spec_l06Of.l0])
  | succ k1 =>
   have H := HA.out
   clear HA
   simp only [spec_l06Of.l0] at H
   by_cases c5 : x6_1 < (l1.length : Int)
   ·
    rw [if_pos c5] at H
    have c5b0 : decide (x6_1 < (l1.length : Int)) = true := decide_eq_true c5
    clear c5
    by_cases c6 : 0 ≤ x6_1
    ·
     rw [if_pos c6] at H
     have c6b0 : decide (0 ≤ x6_1) = true := decide_eq_true c6
     clear c6
     replace H := Option.bind_eq_some_iff.mp H
     obtain ⟨t553, A70, H⟩ := H
     have A7 := as0 A70
     clear A70
     obtain ⟨y554, hy554⟩ : ∃ y_ : List Int, y_ = (([t553, 1] : List Int)) := ⟨_, rfl⟩
     replace H : ((spec_l01Times.f k1 a0 x5_1 y554).bind fun t557 => (spec_l06Of.l0 k1 a0 l1 t557 (wrap64 (x6_1 + 1)))) = some r := by first | (rw [hy554]; with_reducible exact H) | (have H2_ := (Option.bind_some _ _).symm.trans H; rw [hy554]; with_reducible exact H2_) | (have H2_ := (Option.bind_some _ _).symm.trans H; with_reducible exact H2_) | with_reducible exact H | (rw [hy554]; exact H) | exact H
     have Ny554 := as0 hy554
     clear hy554
     replace H := Option.bind_eq_some_iff.mp H
     obtain ⟨t557, A80, H⟩ := H
     have A8 := as0 A80
     clear A80
     have H' := as0 H
     clear H
     have p552 : 0 ≤ (x6_1 : Int) := oa_
     have q552 : x6_1 < (l1.length : Int) := oa_
     obtain ⟨ad552, e552, hx552_0⟩ := Kd.at_int HR1.out x6_1 p552 q552
     cases e552
     replace hx552_0 := (HB.out.cell (World.block_lt_of_cell? w _ hx552_0)).trans hx552_0
     replace p552 := eq_true p552
     replace q552 := eq_true q552
     go_wp2_with (first | ((with_reducible refine gate_callee (f := 61) rfl ?_); refine goesM_ (some 22) rfl rfl Try.func61 #[.int .i64 a0, .int .i64 (wrap64 (-(rd l1 x6_1)))] rfl ?_; (with_reducible refine (spec_l01Mod.calls a0 (wrap64 (-(rd l1 x6_1))) t553 _ A7.out).mono ?_); rintro e w' ⟨rfl, ⟨nd, rfl⟩⟩; refine ⟨_, rfl, ?_⟩) | ((with_reducible refine gate_dst (N := 23) rfl ?_); refine Kd.R_lit (Kd.int .i64) _ 2 ?hg (N := 23) ?hd (xs := ([t553, 1] : List Int)) (inner := [.int .i64 t553, .int .i64 1]) (ok := fun _ => True) (okp := fun _ => True) ?hr ?hp (fun _ hk => hk) trivial (Below.refl _ _) (Nat.le_refl _) (by simp) ?_; (case hd => rfl); (case hg => rfl); (case hr => first | (go_simp; done) | (go_simp; rfl)); (case hp => exact (Reps.one (show Kd.M (Kd.int .i64) _ _ _ t553 [.int .i64 t553] from rfl) (Reps.one (show Kd.M (Kd.int .i64) _ _ _ 1 [.int .i64 1] from rfl) (Reps.none _ _)))); intro v555 w9 ho10 hb hg_ hnew_; clear hg_ hnew_; (first | rw [← Ny554.out] at ho10 | (simp only [Int.reduceToNat] at ho10; rw [← Ny554.out] at ho10)); have n0_ := as0 (Kd.R_elder' (rs HO_5) (Kd.R_base ho10) hb); have n1_ := as0 (Kd.R_lower (Kd.R_new' ho10 (Kd.R_lt (rs HO_5))) (below_size (bs HB))); have n2_ := as0 (below_step (bs HB) hb); clear HO_5; clear HB; have HO_5 := n0_; have HO556 := n1_; have HB := n2_; clear n0_ n1_ n2_; clear hb ho10; obtain ⟨Ao11, co11, eo11⟩ := Kd.R_slice HO_5.out; subst eo11; obtain ⟨Ao12, co12, eo12⟩ := Kd.R_slice HO556.out; subst eo12) | ((with_reducible refine gate_callee (f := 48) rfl ?_); refine goesM_ (some 24) rfl rfl Try.func48 #[.int .i64 a0, .slice Ao11 x5_1.length co11, .slice Ao12 y554.length co12] rfl ?_; (with_reducible refine (spec_l01Times.calls k1 a0 _ _ x5_1 _ _ y554 t557 _ ?side1 ?side2 ?side3 ?side4 A8.out).mono ?_); (case side1 => exact cs ((Kd.R_reads' HO_5.out).2.2)); (case side2 => exact (Kd.R_reads' HO_5.out).2.1); (case side3 => exact cs ((Kd.R_reads' HO556.out).2.2)); (case side4 => exact (Kd.R_reads' HO556.out).2.1); rintro e w13 ⟨v558, rfl, ho0, hb⟩; refine ⟨_, rfl, ?_⟩; have n0_ := as0 (Kd.R_elder' (rs HO_5) (Kd.R_base ho0) hb); have n1_ := as0 (Kd.R_elder' (rs HO556) (Kd.R_base ho0) hb); have n2_ := as0 (Kd.R_lower (Kd.R_new' (Kd.R_new' ho0 (Kd.R_lt (rs HO_5))) (Kd.R_lt (rs HO556))) (below_size (bs HB))); have n3_ := as0 (below_step (bs HB) hb); clear HO_5; clear HO556; clear HB; have HO_5 := n0_; have HO556 := n1_; have HO559 := n2_; have HB := n3_; clear n0_ n1_ n2_ n3_; (try clear hb); (try clear hb2); (try clear hk); (try clear hi); (try clear ho0)))
     go_roundg k1
     case measure => have := HK1.out; omega
     case rel => exact ⟨(t557), (wrap64 (x6_1 + 1)), ea_, H', ⟨by have := HK1.out; omega⟩, ⟨by (with_reducible repeat (first | apply Kd.R_alloc | apply Kd.R_drewN | apply Kd.R_drew)); exact Kd.R_mono HO559.out (fun _ hk => trivial)⟩, ⟨bs HB⟩⟩
    ·
     rw [if_neg c6] at H
     exact absurd H (by simp)
   ·
    rw [if_neg c5] at H
    have c5b0 : decide (x6_1 < (l1.length : Int)) = false := decide_eq_false c5
    clear c5
    obtain rfl := Option.some.inj H
    go_wp2
    go_ret
    exact ⟨_, er_, rs HO_5, bs HB⟩
end Go.Proofs.Ytlmolloallhclaa.H
