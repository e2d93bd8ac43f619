/- Joined texts of a claim: the printed functions and what is proved of them. -/
import Derived.Test.YtepigphelclpcaaHx0
import Derived.Test.YtepigphelclpcaaMa6
import Derived.Test.YtepigphelclpcaaMa7
import Derived.Test.YtepigphelclpcaaMab3
import Derived.Test.YtepigphelclpcaaMab2
import Derived.Test.YtepigphelclpcaaMa8
-- written by wip/drive.py (the session's own program) over the translation; Lean checks it
namespace Go.Proofs.Ytepigphelclpcaa.H
open Go.RowKit Go.Proofs.YtepigphelclpcaaW.PrintWords Go.Proofs.YtepigphelclpcaaW.PrintLast Go.Proofs.YtepigphelclpcaaW.PrintMore
attribute [local go_sem] max2_int min2_int max_two min_two max_three min_three max_four min_four   -- for this text's walks alone
set_option linter.unusedVariables false
set_option linter.unusedSimpArgs false

/-! ### spec_l01Interpolate: function 73 -/
def spec_l01Interpolate.l0 : Nat → Int → List Int → List Int → List Int → List Int → Int → Option (List Int)
  | 0, _, _, _, _, _, _ => none
  | k + 1, x0, x1, x2, x7, x8, x9 => if x9 < (x1.length : Int) then (if 0 ≤ x9 then (if x9 < (x2.length : Int) then ((spec_l01At.f k x0 x7 (rd x1 x9)).bind fun t653 => ((spec_l01Mod.f x0 (wrap64 ((rd x2 x9) - t653))).bind fun t654 => ((spec_l01At.f k x0 x8 (rd x1 x9)).bind fun t656 => ((spec_l01Inverse.f k x0 t656).bind fun t657 => (if x0 = 0 then (none) else ((spec_l01Add.f k x0 x7 x8 (Int.tmod (wrap64 (t654 * t657)) x0)).bind fun t658 => ((spec_l01Mod.f x0 (wrap64 (-(rd x1 x9)))).bind fun t662 => ((spec_l01Times.f k x0 x8 (([t662, 1] : List Int))).bind fun t666 => (spec_l01Interpolate.l0 k x0 x1 x2 t658 t666 (wrap64 (x9 + 1))))))))))) else (none)) else (none)) else (some x7)
def spec_l01Interpolate.f (k : Nat) (a0 : Int) (l1 : List Int) (l2 : List Int) : Option (List Int) := spec_l01Interpolate.l0 k a0 l1 l2 (([] : List Int)) (([1] : List Int)) 0
theorem spec_l01Interpolate.mono_l : ∀ k, (∀ y0 y1 y2 y3 y4 y5, LeO (spec_l01Interpolate.l0 k y0 y1 y2 y3 y4 y5) (spec_l01Interpolate.l0 (k + 1) y0 y1 y2 y3 y4 y5))
  | 0 => fun _ _ _ _ _ _ r h => by simp [spec_l01Interpolate.l0] at h
  | k + 1 => by
    have ih0 := spec_l01Interpolate.mono_l k
    · intro y0 y1 y2 y3 y4 y5
      unfold spec_l01Interpolate.l0
      repeat' first
      | (with_reducible exact ih0 _ _ _ _ _ _)
      | (with_reducible exact spec_l01Add.mono _ _ _ _ _)
      | (with_reducible exact spec_l01At.mono _ _ _ _)
      | (with_reducible exact spec_l01Inverse.mono _ _ _)
      | (with_reducible exact spec_l01Times.mono _ _ _ _)
      | (with_reducible exact LeO.refl _)
      | (with_reducible exact LeO.none _)
      | (with_reducible refine LeO.ite ?_ ?_)
      | (with_reducible refine LeO.bind ?_ (fun _ => ?_))
      | exact ih0 _ _ _ _ _ _
      | exact spec_l01Add.mono _ _ _ _ _
      | exact spec_l01At.mono _ _ _ _
      | exact spec_l01Inverse.mono _ _ _
      | exact spec_l01Times.mono _ _ _ _
      | exact LeO.none _
      | refine LeO.ite ?_ ?_
      | refine LeO.bind ?_ (fun _ => ?_)
theorem spec_l01Interpolate.mono : ∀ a0 a1 a2 k, LeO (spec_l01Interpolate.f k a0 a1 a2) (spec_l01Interpolate.f (k + 1) a0 a1 a2) := by
  intro a0 a1 a2 k
  have ih0 := spec_l01Interpolate.mono_l k
  unfold spec_l01Interpolate.f
  repeat' first
      | (with_reducible exact ih0 _ _ _ _ _ _)
      | (with_reducible exact spec_l01Add.mono _ _ _ _ _)
      | (with_reducible exact spec_l01At.mono _ _ _ _)
      | (with_reducible exact spec_l01Inverse.mono _ _ _)
      | (with_reducible exact spec_l01Times.mono _ _ _ _)
      | (with_reducible exact LeO.refl _)
      | (with_reducible exact LeO.none _)
      | (with_reducible refine LeO.ite ?_ ?_)
      | (with_reducible refine LeO.bind ?_ (fun _ => ?_))
      | exact ih0 _ _ _ _ _ _
      | exact spec_l01Add.mono _ _ _ _ _
      | exact spec_l01At.mono _ _ _ _
      | exact spec_l01Inverse.mono _ _ _
      | exact spec_l01Times.mono _ _ _ _
      | exact LeO.none _
      | refine LeO.ite ?_ ?_
      | refine LeO.bind ?_ (fun _ => ?_)
set_option maxHeartbeats 8000000 in
set_option maxRecDepth 100000 in
theorem spec_l01Interpolate.calls (k : Nat) (a0 : Int) (A1 : Option Addr) (c1 : Nat) (l1 : List Int) (A2 : Option Addr) (c2 : Nat) (l2 : List Int) (r : List Int) (w : World) (hr1 : Kd.C (Kd.int .i64) w A1 l1.length l1) (hc1 : l1.length ≤ c1) (hr2 : Kd.C (Kd.int .i64) w A2 l2.length l2) (hc2 : l2.length ≤ c2) (h : spec_l01Interpolate.f k a0 l1 l2 = some r) :
    Calls Try.prog 73 #[.int .i64 a0, .slice A1 l1.length c1, .slice A2 l2.length c2] w fun e w' => ∃ v0_ : Value, e = .returned (v0_) ∧ Kd.R (Kd.int .i64) 2 w' w.heap.size (fun _ => True) v0_ r ∧ Below w.heap.size w w' := by
  have HR1 := Aside0.mk hr1
  have HC1 := Aside0.mk hc1
  clear hr1 hc1
  have HR2 := Aside0.mk hr2
  have HC2 := Aside0.mk hc2
  clear hr2 hc2
  have HB := Aside0.mk (Below.refl w.heap.size w)
  have H : (spec_l01Interpolate.l0 k a0 l1 l2 (([] : List Int)) (([1] : List Int)) 0) = some r := h
  clear h
  obtain ⟨y645, hy645⟩ : ∃ y_ : List Int, y_ = (([] : List Int)) := ⟨_, rfl⟩
  replace H : (spec_l01Interpolate.l0 k a0 l1 l2 y645 (([1] : List Int)) 0) = some r := by first | (rw [hy645]; with_reducible exact H) | (have H2_ := (Option.bind_some _ _).symm.trans H; rw [hy645]; with_reducible exact H2_) | (have H2_ := (Option.bind_some _ _).symm.trans H; with_reducible exact H2_) | with_reducible exact H | (rw [hy645]; exact H) | exact H
  have Ny645 := Aside0.mk hy645
  clear hy645
  obtain ⟨y648, hy648⟩ : ∃ y_ : List Int, y_ = (([1] : List Int)) := ⟨_, rfl⟩
  replace H : (spec_l01Interpolate.l0 k a0 l1 l2 y645 y648 0) = some r := by first | (rw [hy648]; with_reducible exact H) | (have H2_ := (Option.bind_some _ _).symm.trans H; rw [hy648]; with_reducible exact H2_) | (have H2_ := (Option.bind_some _ _).symm.trans H; with_reducible exact H2_) | with_reducible exact H | (rw [hy648]; exact H) | exact H
  have Ny648 := Aside0.mk hy648
  clear hy648
  have H' := Aside0.mk H
  clear H
  go_enter Try.func73, Try.ntmps73
  go_wp2_with (first | ((with_reducible refine gate_dst (N := 11) rfl ?_); refine Kd.R_lit (Kd.int .i64) _ 2 ?hg (N := 11) ?hd (xs := ([] : List Int)) (inner := []) (ok := fun _ => True) (okp := fun _ => True) ?hr ?hp (fun _ hk => hk) trivial (Below.refl _ _) (Nat.le_refl _) (by simp) ?_; (case hd => rfl); (case hg => rfl); (case hr => first | (go_simp; done) | (go_simp; rfl)); (case hp => exact (Reps.none _ _)); intro v646 w4 ho5 hb hg_ hnew_; clear hg_ hnew_; (first | rw [← Ny645.out] at ho5 | (simp only [Int.reduceToNat] at ho5; rw [← Ny645.out] at ho5)); have n0_ := Aside0.mk (Kd.R_lower ho5 (below_size (bs HB))); have n1_ := Aside0.mk (below_step (bs HB) hb); clear HB; have HO647 := n0_; have HB := n1_; clear n0_ n1_; clear hb ho5) | ((with_reducible refine gate_dst (N := 12) rfl ?_); refine Kd.R_lit (Kd.int .i64) _ 2 ?hg (N := 12) ?hd (xs := ([1] : List Int)) (inner := [.int .i64 1]) (ok := fun _ => True) (okp := fun _ => True) ?hr ?hp (fun _ hk => hk) trivial (Below.refl _ _) (Nat.le_refl _) (by simp) ?_; (case hd => rfl); (case hg => rfl); (case hr => first | (go_simp; done) | (go_simp; rfl)); (case hp => exact (Reps.one (show Kd.M (Kd.int .i64) _ _ _ 1 [.int .i64 1] from rfl) (Reps.none _ _))); intro v649 w6 ho7 hb hg_ hnew_; clear hg_ hnew_; (first | rw [← Ny648.out] at ho7 | (simp only [Int.reduceToNat] at ho7; rw [← Ny648.out] at ho7)); have n0_ := Aside0.mk (Kd.R_elder' (rs HO647) (Kd.R_base ho7) hb); have n1_ := Aside0.mk (Kd.R_lower (Kd.R_new' ho7 (Kd.R_lt (rs HO647))) (below_size (bs HB))); have n2_ := Aside0.mk (below_step (bs HB) hb); clear HO647; clear HB; have HO647 := n0_; have HO650 := n1_; have HB := n2_; clear n0_ n1_ n2_; clear hb ho7))
  repeat (go_quiet (first | ((with_reducible refine gate_dst (N := 11) rfl ?_); refine Kd.R_lit (Kd.int .i64) _ 2 ?hg (N := 11) ?hd (xs := ([] : List Int)) (inner := []) (ok := fun _ => True) (okp := fun _ => True) ?hr ?hp (fun _ hk => hk) trivial (Below.refl _ _) (Nat.le_refl _) (by simp) ?_; (case hd => rfl); (case hg => rfl); (case hr => first | (go_simp; done) | (go_simp; rfl)); (case hp => exact (Reps.none _ _)); intro v646 w4 ho5 hb hg_ hnew_; clear hg_ hnew_; (first | rw [← Ny645.out] at ho5 | (simp only [Int.reduceToNat] at ho5; rw [← Ny645.out] at ho5)); have n0_ := Aside0.mk (Kd.R_lower ho5 (below_size (bs HB))); have n1_ := Aside0.mk (below_step (bs HB) hb); clear HB; have HO647 := n0_; have HB := n1_; clear n0_ n1_; clear hb ho5) | ((with_reducible refine gate_dst (N := 12) rfl ?_); refine Kd.R_lit (Kd.int .i64) _ 2 ?hg (N := 12) ?hd (xs := ([1] : List Int)) (inner := [.int .i64 1]) (ok := fun _ => True) (okp := fun _ => True) ?hr ?hp (fun _ hk => hk) trivial (Below.refl _ _) (Nat.le_refl _) (by simp) ?_; (case hd => rfl); (case hg => rfl); (case hr => first | (go_simp; done) | (go_simp; rfl)); (case hp => exact (Reps.one (show Kd.M (Kd.int .i64) _ _ _ 1 [.int .i64 1] from rfl) (Reps.none _ _))); intro v649 w6 ho7 hb hg_ hnew_; clear hg_ hnew_; (first | rw [← Ny648.out] at ho7 | (simp only [Int.reduceToNat] at ho7; rw [← Ny648.out] at ho7)); have n0_ := Aside0.mk (Kd.R_elder' (rs HO647) (Kd.R_base ho7) hb); have n1_ := Aside0.mk (Kd.R_lower (Kd.R_new' ho7 (Kd.R_lt (rs HO647))) (below_size (bs HB))); have n2_ := Aside0.mk (below_step (bs HB) hb); clear HO647; clear HB; have HO647 := n0_; have HO650 := n1_; have HB := n2_; clear n0_ n1_ n2_; clear hb ho7)); try go_wp2_with (first | ((with_reducible refine gate_dst (N := 11) rfl ?_); refine Kd.R_lit (Kd.int .i64) _ 2 ?hg (N := 11) ?hd (xs := ([] : List Int)) (inner := []) (ok := fun _ => True) (okp := fun _ => True) ?hr ?hp (fun _ hk => hk) trivial (Below.refl _ _) (Nat.le_refl _) (by simp) ?_; (case hd => rfl); (case hg => rfl); (case hr => first | (go_simp; done) | (go_simp; rfl)); (case hp => exact (Reps.none _ _)); intro v646 w4 ho5 hb hg_ hnew_; clear hg_ hnew_; (first | rw [← Ny645.out] at ho5 | (simp only [Int.reduceToNat] at ho5; rw [← Ny645.out] at ho5)); have n0_ := Aside0.mk (Kd.R_lower ho5 (below_size (bs HB))); have n1_ := Aside0.mk (below_step (bs HB) hb); clear HB; have HO647 := n0_; have HB := n1_; clear n0_ n1_; clear hb ho5) | ((with_reducible refine gate_dst (N := 12) rfl ?_); refine Kd.R_lit (Kd.int .i64) _ 2 ?hg (N := 12) ?hd (xs := ([1] : List Int)) (inner := [.int .i64 1]) (ok := fun _ => True) (okp := fun _ => True) ?hr ?hp (fun _ hk => hk) trivial (Below.refl _ _) (Nat.le_refl _) (by simp) ?_; (case hd => rfl); (case hg => rfl); (case hr => first | (go_simp; done) | (go_simp; rfl)); (case hp => exact (Reps.one (show Kd.M (Kd.int .i64) _ _ _ 1 [.int .i64 1] from rfl) (Reps.none _ _))); intro v649 w6 ho7 hb hg_ hnew_; clear hg_ hnew_; (first | rw [← Ny648.out] at ho7 | (simp only [Int.reduceToNat] at ho7; rw [← Ny648.out] at ho7)); have n0_ := Aside0.mk (Kd.R_elder' (rs HO647) (Kd.R_base ho7) hb); have n1_ := Aside0.mk (Kd.R_lower (Kd.R_new' ho7 (Kd.R_lt (rs HO647))) (below_size (bs HB))); have n2_ := Aside0.mk (below_step (bs HB) hb); clear HO647; clear HB; have HO647 := n0_; have HO650 := n1_; have HB := n2_; clear n0_ n1_ n2_; clear hb ho7)))
  go_loopg [7, 8, 9] k (fun kq v7 v8 v9 w' => ∃ (x7_1 : List Int) (x8_1 : List Int) (x9_1 : Int), v9 = .int .i64 x9_1 ∧ Aside0 (spec_l01Interpolate.l0 kq a0 l1 l2 x7_1 x8_1 x9_1 = some r) ∧ Aside0 (kq ≤ k) ∧ Aside0 (Kd.R (Kd.int .i64) 2 w' w.heap.size (fun k_ => some k_ ≠ (v8 : Value).ownBlock) v7 x7_1) ∧ Aside0 (Kd.R (Kd.int .i64) 2 w' w.heap.size (fun k_ => some k_ ≠ (v7 : Value).ownBlock) v8 x8_1) ∧ Aside0 (Below w.heap.size w w'))
  case atStart => exact ⟨(y645), (y648), (0), ea_, H', ⟨Nat.le_refl _⟩, ⟨by (with_reducible repeat (first | apply Kd.R_alloc | apply Kd.R_drewN | apply Kd.R_drew)); exact Kd.R_mono HO647.out (fun _ hk => hk.2)⟩, ⟨by (with_reducible repeat (first | apply Kd.R_alloc | apply Kd.R_drewN | apply Kd.R_drew)); exact Kd.R_mono HO650.out (fun _ hk => hk.2)⟩, ⟨by repeat (first | (with_reducible first | exact HB.out | apply below_alloc | apply pw_below_drewN | apply below_drew1) | exact HB.out)⟩⟩
  case round =>
    clear H'
    try clear c1
    try clear c2
    try clear p2
    try clear c7
    obtain ⟨x7_1, x8_1, x9_1, rfl, HA, HK1, HO_7, HO_8, HB⟩ := hrel
    cases gk with
    | zero => exact absurd HA.out (by simp [spec_l01Interpolate.l0])
    | succ k1 =>
      have H := HA.out
      clear HA
      simp only [spec_l01Interpolate.l0] at H
      by_cases c8 : x9_1 < (l1.length : Int)
      · rw [if_pos c8] at H
        have c8b0 : decide (x9_1 < (l1.length : Int)) = true := decide_eq_true c8
        clear c8
        by_cases c9 : 0 ≤ x9_1
        · rw [if_pos c9] at H
          have c9b0 : decide (0 ≤ x9_1) = true := decide_eq_true c9
          clear c9
          by_cases c10 : x9_1 < (l2.length : Int)
          · rw [if_pos c10] at H
            have c10b0 : decide (x9_1 < (l2.length : Int)) = true := decide_eq_true c10
            clear c10
            replace H := Option.bind_eq_some_iff.mp H
            obtain ⟨t653, A110, H⟩ := H
            have A11 := Aside0.mk A110
            clear A110
            replace H := Option.bind_eq_some_iff.mp H
            obtain ⟨t654, A120, H⟩ := H
            have A12 := Aside0.mk A120
            clear A120
            replace H := Option.bind_eq_some_iff.mp H
            obtain ⟨t656, A130, H⟩ := H
            have A13 := Aside0.mk A130
            clear A130
            replace H := Option.bind_eq_some_iff.mp H
            obtain ⟨t657, A140, H⟩ := H
            have A14 := Aside0.mk A140
            clear A140
            by_cases c15 : a0 = 0
            · rw [if_pos c15] at H
              exact absurd H (by simp)
            · rw [if_neg c15] at H
              have c15b0 : (a0 == 0) = false := beq_eq_false_iff_ne.mpr c15
              have c15b1 : (a0 != 0) = true := bne_iff_ne.mpr c15
              replace H := Option.bind_eq_some_iff.mp H
              obtain ⟨t658, A160, H⟩ := H
              have A16 := Aside0.mk A160
              clear A160
              replace H := Option.bind_eq_some_iff.mp H
              obtain ⟨t662, A170, H⟩ := H
              have A17 := Aside0.mk A170
              clear A170
              obtain ⟨y663, hy663⟩ : ∃ y_ : List Int, y_ = (([t662, 1] : List Int)) := ⟨_, rfl⟩
              replace H : ((spec_l01Times.f k1 a0 x8_1 y663).bind fun t666 => (spec_l01Interpolate.l0 k1 a0 l1 l2 t658 t666 (wrap64 (x9_1 + 1)))) = some r := by first | (rw [hy663]; with_reducible exact H) | (have H2_ := (Option.bind_some _ _).symm.trans H; rw [hy663]; with_reducible exact H2_) | (have H2_ := (Option.bind_some _ _).symm.trans H; with_reducible exact H2_) | with_reducible exact H | (rw [hy663]; exact H) | exact H
              have Ny663 := Aside0.mk hy663
              clear hy663
              replace H := Option.bind_eq_some_iff.mp H
              obtain ⟨t666, A180, H⟩ := H
              have A18 := Aside0.mk A180
              clear A180
              have H' := Aside0.mk H
              clear H
              have p651 : 0 ≤ (x9_1 : Int) := of_decide_eq_true (by first | (with_reducible assumption) | assumption)
              have q651 : x9_1 < (l2.length : Int) := of_decide_eq_true (by first | (with_reducible assumption) | assumption)
              obtain ⟨ad651, e651, hx651_0⟩ := Kd.at_int HR2.out x9_1 p651 q651
              cases e651
              replace hx651_0 := (HB.out.cell (World.block_lt_of_cell? w _ hx651_0)).trans hx651_0
              replace p651 := eq_true p651
              replace q651 := eq_true q651
              have p652 : 0 ≤ (x9_1 : Int) := of_decide_eq_true (by first | (with_reducible assumption) | assumption)
              have q652 : x9_1 < (l1.length : Int) := of_decide_eq_true (by first | (with_reducible assumption) | assumption)
              obtain ⟨ad652, e652, hx652_0⟩ := Kd.at_int HR1.out x9_1 p652 q652
              cases e652
              replace hx652_0 := (HB.out.cell (World.block_lt_of_cell? w _ hx652_0)).trans hx652_0
              replace p652 := eq_true p652
              replace q652 := eq_true q652
              obtain ⟨Ao19, co19, eo19⟩ := Kd.R_slice HO_7.out
              subst eo19
              have p655 : 0 ≤ (x9_1 : Int) := of_decide_eq_true (by first | (with_reducible assumption) | assumption)
              have q655 : x9_1 < (l1.length : Int) := of_decide_eq_true (by first | (with_reducible assumption) | assumption)
              obtain ⟨ad655, e655, hx655_0⟩ := Kd.at_int HR1.out x9_1 p655 q655
              obtain rfl : ad652 = ad655 := (by injection e655)
              replace hx655_0 := (HB.out.cell (World.block_lt_of_cell? w _ hx655_0)).trans hx655_0
              replace p655 := eq_true p655
              replace q655 := eq_true q655
              obtain ⟨Ao20, co20, eo20⟩ := Kd.R_slice HO_8.out
              subst eo20
              go_wp2_with (first | (go_at_call 82; (with_reducible refine (spec_l01At.calls k1 a0 _ _ x7_1 (rd l1 x9_1) t653 _ ?side1 ?side2 A11.out).mono ?_); (case side1 => exact cs ((Kd.R_reads' HO_7.out).2.2)); (case side2 => exact (Kd.R_reads' HO_7.out).2.1); rintro e w' ⟨rfl, ⟨nd, rfl⟩⟩; (try first | exact ⟨rfl, _, World.drewN_drewN _ _ _⟩ | exact ⟨rfl, _, Eq.trans (World.drewN_drewN _ _ _) (congrArg (World.drewN _) (Nat.add_assoc _ _ _))⟩)) | (go_at_call 77; (with_reducible refine (spec_l01Mod.calls a0 (wrap64 ((rd l2 x9_1) - t653)) t654 _ A12.out).mono ?_); rintro e w' ⟨rfl, ⟨nd, rfl⟩⟩; (try first | exact ⟨rfl, _, World.drewN_drewN _ _ _⟩ | exact ⟨rfl, _, Eq.trans (World.drewN_drewN _ _ _) (congrArg (World.drewN _) (Nat.add_assoc _ _ _))⟩)) | (go_at_call 82; (with_reducible refine (spec_l01At.calls k1 a0 _ _ x8_1 (rd l1 x9_1) t656 _ ?side1 ?side2 A13.out).mono ?_); (case side1 => exact cs ((Kd.R_reads' HO_8.out).2.2)); (case side2 => exact (Kd.R_reads' HO_8.out).2.1); rintro e w' ⟨rfl, ⟨nd, rfl⟩⟩; (try first | exact ⟨rfl, _, World.drewN_drewN _ _ _⟩ | exact ⟨rfl, _, Eq.trans (World.drewN_drewN _ _ _) (congrArg (World.drewN _) (Nat.add_assoc _ _ _))⟩)) | (go_at_call 56; (with_reducible refine (spec_l01Inverse.calls k1 a0 t656 t657 _ A14.out).mono ?_); rintro e w' ⟨rfl, ⟨nd, rfl⟩⟩; (try first | exact ⟨rfl, _, World.drewN_drewN _ _ _⟩ | exact ⟨rfl, _, Eq.trans (World.drewN_drewN _ _ _) (congrArg (World.drewN _) (Nat.add_assoc _ _ _))⟩)) | (go_at_call 83; (with_reducible refine (spec_l01Add.calls k1 a0 _ _ x7_1 _ _ x8_1 (Int.tmod (wrap64 (t654 * t657)) a0) t658 _ ?side1 ?side2 ?side3 ?side4 A16.out).mono ?_); (case side1 => exact cs ((Kd.R_reads' HO_7.out).2.2)); (case side2 => exact (Kd.R_reads' HO_7.out).2.1); (case side3 => exact cs ((Kd.R_reads' HO_8.out).2.2)); (case side4 => exact (Kd.R_reads' HO_8.out).2.1); rintro e w21 ⟨v659, rfl, ho0, hb⟩; have n0_ := Aside0.mk (Kd.R_elder' (rs HO_7) (Kd.R_base ho0) hb); have n1_ := Aside0.mk (Kd.R_elder' (rs HO_8) (Kd.R_base ho0) hb); have n2_ := Aside0.mk (Kd.R_lower (Kd.R_new' (Kd.R_new' ho0 (Kd.R_lt (rs HO_7))) (Kd.R_lt (rs HO_8))) (below_size (bs HB))); have n3_ := Aside0.mk (below_step (bs HB) hb); clear HO_7; clear HO_8; clear HB; have HO_7 := n0_; have HO_8 := n1_; have HO660 := n2_; have HB := n3_; clear n0_ n1_ n2_ n3_; (try clear hb); (try clear hb2); (try clear hk); (try clear hi); (try clear ho0); have p661 : 0 ≤ (x9_1 : Int) := of_decide_eq_true (by first | (with_reducible assumption) | assumption); have q661 : x9_1 < (l1.length : Int) := of_decide_eq_true (by first | (with_reducible assumption) | assumption); obtain ⟨ad661, e661, hx661_0⟩ := Kd.at_int HR1.out x9_1 p661 q661; obtain rfl : ad652 = ad661 := (by injection e661); replace hx661_0 := (HB.out.cell (World.block_lt_of_cell? w _ hx661_0)).trans hx661_0; replace p661 := eq_true p661; replace q661 := eq_true q661) | (go_at_call 77; (with_reducible refine (spec_l01Mod.calls a0 (wrap64 (-(rd l1 x9_1))) t662 _ A17.out).mono ?_); rintro e w' ⟨rfl, ⟨nd, rfl⟩⟩; (try first | exact ⟨rfl, _, World.drewN_drewN _ _ _⟩ | exact ⟨rfl, _, Eq.trans (World.drewN_drewN _ _ _) (congrArg (World.drewN _) (Nat.add_assoc _ _ _))⟩)) | ((with_reducible refine gate_dst (N := 59) rfl ?_); refine Kd.R_lit (Kd.int .i64) _ 2 ?hg (N := 59) ?hd (xs := ([t662, 1] : List Int)) (inner := [.int .i64 t662, .int .i64 1]) (ok := fun _ => True) (okp := fun _ => True) ?hr ?hp (fun _ hk => hk) trivial (Below.refl _ _) (Nat.le_refl _) (by simp) ?_; (case hd => rfl); (case hg => rfl); (case hr => first | (go_simp; done) | (go_simp; rfl)); (case hp => exact (Reps.one (show Kd.M (Kd.int .i64) _ _ _ t662 [.int .i64 t662] from rfl) (Reps.one (show Kd.M (Kd.int .i64) _ _ _ 1 [.int .i64 1] from rfl) (Reps.none _ _)))); intro v664 w22 ho23 hb hg_ hnew_; clear hg_ hnew_; (first | rw [← Ny663.out] at ho23 | (simp only [Int.reduceToNat] at ho23; rw [← Ny663.out] at ho23)); have n0_ := Aside0.mk (Kd.R_elder' (rs HO_7) (Kd.R_base ho23) hb); have n1_ := Aside0.mk (Kd.R_elder' (rs HO_8) (Kd.R_base ho23) hb); have n2_ := Aside0.mk (Kd.R_elder' (rs HO660) (Kd.R_base ho23) hb); have n3_ := Aside0.mk (Kd.R_lower (Kd.R_new' (Kd.R_new' (Kd.R_new' ho23 (Kd.R_lt (rs HO_7))) (Kd.R_lt (rs HO_8))) (Kd.R_lt (rs HO660))) (below_size (bs HB))); have n4_ := Aside0.mk (below_step (bs HB) hb); clear HO_7; clear HO_8; clear HO660; clear HB; have HO_7 := n0_; have HO_8 := n1_; have HO660 := n2_; have HO665 := n3_; have HB := n4_; clear n0_ n1_ n2_ n3_ n4_; clear hb ho23; obtain ⟨Ao24, co24, eo24⟩ := Kd.R_slice HO665.out; subst eo24) | (go_at_call 84; (with_reducible refine (spec_l01Times.calls k1 a0 _ _ x8_1 _ _ y663 t666 _ ?side1 ?side2 ?side3 ?side4 A18.out).mono ?_); (case side1 => exact cs ((Kd.R_reads' HO_8.out).2.2)); (case side2 => exact (Kd.R_reads' HO_8.out).2.1); (case side3 => exact cs ((Kd.R_reads' HO665.out).2.2)); (case side4 => exact (Kd.R_reads' HO665.out).2.1); rintro e w25 ⟨v667, rfl, ho0, hb⟩; have n0_ := Aside0.mk (Kd.R_elder' (rs HO_7) (Kd.R_base ho0) hb); have n1_ := Aside0.mk (Kd.R_elder' (rs HO_8) (Kd.R_base ho0) hb); have n2_ := Aside0.mk (Kd.R_elder' (rs HO660) (Kd.R_base ho0) hb); have n3_ := Aside0.mk (Kd.R_elder' (rs HO665) (Kd.R_base ho0) hb); have n4_ := Aside0.mk (Kd.R_lower (Kd.R_new' (Kd.R_new' (Kd.R_new' (Kd.R_new' ho0 (Kd.R_lt (rs HO_7))) (Kd.R_lt (rs HO_8))) (Kd.R_lt (rs HO660))) (Kd.R_lt (rs HO665))) (below_size (bs HB))); have n5_ := Aside0.mk (below_step (bs HB) hb); clear HO_7; clear HO_8; clear HO660; clear HO665; clear HB; have HO_7 := n0_; have HO_8 := n1_; have HO660 := n2_; have HO665 := n3_; have HO668 := n4_; have HB := n5_; clear n0_ n1_ n2_ n3_ n4_ n5_; (try clear hb); (try clear hb2); (try clear hk); (try clear hi); (try clear ho0)))
              repeat (go_quiet (first | (go_at_call 82; (with_reducible refine (spec_l01At.calls k1 a0 _ _ x7_1 (rd l1 x9_1) t653 _ ?side1 ?side2 A11.out).mono ?_); (case side1 => exact cs ((Kd.R_reads' HO_7.out).2.2)); (case side2 => exact (Kd.R_reads' HO_7.out).2.1); rintro e w' ⟨rfl, ⟨nd, rfl⟩⟩; (try first | exact ⟨rfl, _, World.drewN_drewN _ _ _⟩ | exact ⟨rfl, _, Eq.trans (World.drewN_drewN _ _ _) (congrArg (World.drewN _) (Nat.add_assoc _ _ _))⟩)) | (go_at_call 77; (with_reducible refine (spec_l01Mod.calls a0 (wrap64 ((rd l2 x9_1) - t653)) t654 _ A12.out).mono ?_); rintro e w' ⟨rfl, ⟨nd, rfl⟩⟩; (try first | exact ⟨rfl, _, World.drewN_drewN _ _ _⟩ | exact ⟨rfl, _, Eq.trans (World.drewN_drewN _ _ _) (congrArg (World.drewN _) (Nat.add_assoc _ _ _))⟩)) | (go_at_call 82; (with_reducible refine (spec_l01At.calls k1 a0 _ _ x8_1 (rd l1 x9_1) t656 _ ?side1 ?side2 A13.out).mono ?_); (case side1 => exact cs ((Kd.R_reads' HO_8.out).2.2)); (case side2 => exact (Kd.R_reads' HO_8.out).2.1); rintro e w' ⟨rfl, ⟨nd, rfl⟩⟩; (try first | exact ⟨rfl, _, World.drewN_drewN _ _ _⟩ | exact ⟨rfl, _, Eq.trans (World.drewN_drewN _ _ _) (congrArg (World.drewN _) (Nat.add_assoc _ _ _))⟩)) | (go_at_call 56; (with_reducible refine (spec_l01Inverse.calls k1 a0 t656 t657 _ A14.out).mono ?_); rintro e w' ⟨rfl, ⟨nd, rfl⟩⟩; (try first | exact ⟨rfl, _, World.drewN_drewN _ _ _⟩ | exact ⟨rfl, _, Eq.trans (World.drewN_drewN _ _ _) (congrArg (World.drewN _) (Nat.add_assoc _ _ _))⟩)) | (go_at_call 83; (with_reducible refine (spec_l01Add.calls k1 a0 _ _ x7_1 _ _ x8_1 (Int.tmod (wrap64 (t654 * t657)) a0) t658 _ ?side1 ?side2 ?side3 ?side4 A16.out).mono ?_); (case side1 => exact cs ((Kd.R_reads' HO_7.out).2.2)); (case side2 => exact (Kd.R_reads' HO_7.out).2.1); (case side3 => exact cs ((Kd.R_reads' HO_8.out).2.2)); (case side4 => exact (Kd.R_reads' HO_8.out).2.1); rintro e w21 ⟨v659, rfl, ho0, hb⟩; have n0_ := Aside0.mk (Kd.R_elder' (rs HO_7) (Kd.R_base ho0) hb); have n1_ := Aside0.mk (Kd.R_elder' (rs HO_8) (Kd.R_base ho0) hb); have n2_ := Aside0.mk (Kd.R_lower (Kd.R_new' (Kd.R_new' ho0 (Kd.R_lt (rs HO_7))) (Kd.R_lt (rs HO_8))) (below_size (bs HB))); have n3_ := Aside0.mk (below_step (bs HB) hb); clear HO_7; clear HO_8; clear HB; have HO_7 := n0_; have HO_8 := n1_; have HO660 := n2_; have HB := n3_; clear n0_ n1_ n2_ n3_; (try clear hb); (try clear hb2); (try clear hk); (try clear hi); (try clear ho0); have p661 : 0 ≤ (x9_1 : Int) := of_decide_eq_true (by first | (with_reducible assumption) | assumption); have q661 : x9_1 < (l1.length : Int) := of_decide_eq_true (by first | (with_reducible assumption) | assumption); obtain ⟨ad661, e661, hx661_0⟩ := Kd.at_int HR1.out x9_1 p661 q661; obtain rfl : ad652 = ad661 := (by injection e661); replace hx661_0 := (HB.out.cell (World.block_lt_of_cell? w _ hx661_0)).trans hx661_0; replace p661 := eq_true p661; replace q661 := eq_true q661) | (go_at_call 77; (with_reducible refine (spec_l01Mod.calls a0 (wrap64 (-(rd l1 x9_1))) t662 _ A17.out).mono ?_); rintro e w' ⟨rfl, ⟨nd, rfl⟩⟩; (try first | exact ⟨rfl, _, World.drewN_drewN _ _ _⟩ | exact ⟨rfl, _, Eq.trans (World.drewN_drewN _ _ _) (congrArg (World.drewN _) (Nat.add_assoc _ _ _))⟩)) | ((with_reducible refine gate_dst (N := 59) rfl ?_); refine Kd.R_lit (Kd.int .i64) _ 2 ?hg (N := 59) ?hd (xs := ([t662, 1] : List Int)) (inner := [.int .i64 t662, .int .i64 1]) (ok := fun _ => True) (okp := fun _ => True) ?hr ?hp (fun _ hk => hk) trivial (Below.refl _ _) (Nat.le_refl _) (by simp) ?_; (case hd => rfl); (case hg => rfl); (case hr => first | (go_simp; done) | (go_simp; rfl)); (case hp => exact (Reps.one (show Kd.M (Kd.int .i64) _ _ _ t662 [.int .i64 t662] from rfl) (Reps.one (show Kd.M (Kd.int .i64) _ _ _ 1 [.int .i64 1] from rfl) (Reps.none _ _)))); intro v664 w22 ho23 hb hg_ hnew_; clear hg_ hnew_; (first | rw [← Ny663.out] at ho23 | (simp only [Int.reduceToNat] at ho23; rw [← Ny663.out] at ho23)); have n0_ := Aside0.mk (Kd.R_elder' (rs HO_7) (Kd.R_base ho23) hb); have n1_ := Aside0.mk (Kd.R_elder' (rs HO_8) (Kd.R_base ho23) hb); have n2_ := Aside0.mk (Kd.R_elder' (rs HO660) (Kd.R_base ho23) hb); have n3_ := Aside0.mk (Kd.R_lower (Kd.R_new' (Kd.R_new' (Kd.R_new' ho23 (Kd.R_lt (rs HO_7))) (Kd.R_lt (rs HO_8))) (Kd.R_lt (rs HO660))) (below_size (bs HB))); have n4_ := Aside0.mk (below_step (bs HB) hb); clear HO_7; clear HO_8; clear HO660; clear HB; have HO_7 := n0_; have HO_8 := n1_; have HO660 := n2_; have HO665 := n3_; have HB := n4_; clear n0_ n1_ n2_ n3_ n4_; clear hb ho23; obtain ⟨Ao24, co24, eo24⟩ := Kd.R_slice HO665.out; subst eo24) | (go_at_call 84; (with_reducible refine (spec_l01Times.calls k1 a0 _ _ x8_1 _ _ y663 t666 _ ?side1 ?side2 ?side3 ?side4 A18.out).mono ?_); (case side1 => exact cs ((Kd.R_reads' HO_8.out).2.2)); (case side2 => exact (Kd.R_reads' HO_8.out).2.1); (case side3 => exact cs ((Kd.R_reads' HO665.out).2.2)); (case side4 => exact (Kd.R_reads' HO665.out).2.1); rintro e w25 ⟨v667, rfl, ho0, hb⟩; have n0_ := Aside0.mk (Kd.R_elder' (rs HO_7) (Kd.R_base ho0) hb); have n1_ := Aside0.mk (Kd.R_elder' (rs HO_8) (Kd.R_base ho0) hb); have n2_ := Aside0.mk (Kd.R_elder' (rs HO660) (Kd.R_base ho0) hb); have n3_ := Aside0.mk (Kd.R_elder' (rs HO665) (Kd.R_base ho0) hb); have n4_ := Aside0.mk (Kd.R_lower (Kd.R_new' (Kd.R_new' (Kd.R_new' (Kd.R_new' ho0 (Kd.R_lt (rs HO_7))) (Kd.R_lt (rs HO_8))) (Kd.R_lt (rs HO660))) (Kd.R_lt (rs HO665))) (below_size (bs HB))); have n5_ := Aside0.mk (below_step (bs HB) hb); clear HO_7; clear HO_8; clear HO660; clear HO665; clear HB; have HO_7 := n0_; have HO_8 := n1_; have HO660 := n2_; have HO665 := n3_; have HO668 := n4_; have HB := n5_; clear n0_ n1_ n2_ n3_ n4_ n5_; (try clear hb); (try clear hb2); (try clear hk); (try clear hi); (try clear ho0))); try go_wp2_with (first | (go_at_call 82; (with_reducible refine (spec_l01At.calls k1 a0 _ _ x7_1 (rd l1 x9_1) t653 _ ?side1 ?side2 A11.out).mono ?_); (case side1 => exact cs ((Kd.R_reads' HO_7.out).2.2)); (case side2 => exact (Kd.R_reads' HO_7.out).2.1); rintro e w' ⟨rfl, ⟨nd, rfl⟩⟩; (try first | exact ⟨rfl, _, World.drewN_drewN _ _ _⟩ | exact ⟨rfl, _, Eq.trans (World.drewN_drewN _ _ _) (congrArg (World.drewN _) (Nat.add_assoc _ _ _))⟩)) | (go_at_call 77; (with_reducible refine (spec_l01Mod.calls a0 (wrap64 ((rd l2 x9_1) - t653)) t654 _ A12.out).mono ?_); rintro e w' ⟨rfl, ⟨nd, rfl⟩⟩; (try first | exact ⟨rfl, _, World.drewN_drewN _ _ _⟩ | exact ⟨rfl, _, Eq.trans (World.drewN_drewN _ _ _) (congrArg (World.drewN _) (Nat.add_assoc _ _ _))⟩)) | (go_at_call 82; (with_reducible refine (spec_l01At.calls k1 a0 _ _ x8_1 (rd l1 x9_1) t656 _ ?side1 ?side2 A13.out).mono ?_); (case side1 => exact cs ((Kd.R_reads' HO_8.out).2.2)); (case side2 => exact (Kd.R_reads' HO_8.out).2.1); rintro e w' ⟨rfl, ⟨nd, rfl⟩⟩; (try first | exact ⟨rfl, _, World.drewN_drewN _ _ _⟩ | exact ⟨rfl, _, Eq.trans (World.drewN_drewN _ _ _) (congrArg (World.drewN _) (Nat.add_assoc _ _ _))⟩)) | (go_at_call 56; (with_reducible refine (spec_l01Inverse.calls k1 a0 t656 t657 _ A14.out).mono ?_); rintro e w' ⟨rfl, ⟨nd, rfl⟩⟩; (try first | exact ⟨rfl, _, World.drewN_drewN _ _ _⟩ | exact ⟨rfl, _, Eq.trans (World.drewN_drewN _ _ _) (congrArg (World.drewN _) (Nat.add_assoc _ _ _))⟩)) | (go_at_call 83; (with_reducible refine (spec_l01Add.calls k1 a0 _ _ x7_1 _ _ x8_1 (Int.tmod (wrap64 (t654 * t657)) a0) t658 _ ?side1 ?side2 ?side3 ?side4 A16.out).mono ?_); (case side1 => exact cs ((Kd.R_reads' HO_7.out).2.2)); (case side2 => exact (Kd.R_reads' HO_7.out).2.1); (case side3 => exact cs ((Kd.R_reads' HO_8.out).2.2)); (case side4 => exact (Kd.R_reads' HO_8.out).2.1); rintro e w21 ⟨v659, rfl, ho0, hb⟩; have n0_ := Aside0.mk (Kd.R_elder' (rs HO_7) (Kd.R_base ho0) hb); have n1_ := Aside0.mk (Kd.R_elder' (rs HO_8) (Kd.R_base ho0) hb); have n2_ := Aside0.mk (Kd.R_lower (Kd.R_new' (Kd.R_new' ho0 (Kd.R_lt (rs HO_7))) (Kd.R_lt (rs HO_8))) (below_size (bs HB))); have n3_ := Aside0.mk (below_step (bs HB) hb); clear HO_7; clear HO_8; clear HB; have HO_7 := n0_; have HO_8 := n1_; have HO660 := n2_; have HB := n3_; clear n0_ n1_ n2_ n3_; (try clear hb); (try clear hb2); (try clear hk); (try clear hi); (try clear ho0); have p661 : 0 ≤ (x9_1 : Int) := of_decide_eq_true (by first | (with_reducible assumption) | assumption); have q661 : x9_1 < (l1.length : Int) := of_decide_eq_true (by first | (with_reducible assumption) | assumption); obtain ⟨ad661, e661, hx661_0⟩ := Kd.at_int HR1.out x9_1 p661 q661; obtain rfl : ad652 = ad661 := (by injection e661); replace hx661_0 := (HB.out.cell (World.block_lt_of_cell? w _ hx661_0)).trans hx661_0; replace p661 := eq_true p661; replace q661 := eq_true q661) | (go_at_call 77; (with_reducible refine (spec_l01Mod.calls a0 (wrap64 (-(rd l1 x9_1))) t662 _ A17.out).mono ?_); rintro e w' ⟨rfl, ⟨nd, rfl⟩⟩; (try first | exact ⟨rfl, _, World.drewN_drewN _ _ _⟩ | exact ⟨rfl, _, Eq.trans (World.drewN_drewN _ _ _) (congrArg (World.drewN _) (Nat.add_assoc _ _ _))⟩)) | ((with_reducible refine gate_dst (N := 59) rfl ?_); refine Kd.R_lit (Kd.int .i64) _ 2 ?hg (N := 59) ?hd (xs := ([t662, 1] : List Int)) (inner := [.int .i64 t662, .int .i64 1]) (ok := fun _ => True) (okp := fun _ => True) ?hr ?hp (fun _ hk => hk) trivial (Below.refl _ _) (Nat.le_refl _) (by simp) ?_; (case hd => rfl); (case hg => rfl); (case hr => first | (go_simp; done) | (go_simp; rfl)); (case hp => exact (Reps.one (show Kd.M (Kd.int .i64) _ _ _ t662 [.int .i64 t662] from rfl) (Reps.one (show Kd.M (Kd.int .i64) _ _ _ 1 [.int .i64 1] from rfl) (Reps.none _ _)))); intro v664 w22 ho23 hb hg_ hnew_; clear hg_ hnew_; (first | rw [← Ny663.out] at ho23 | (simp only [Int.reduceToNat] at ho23; rw [← Ny663.out] at ho23)); have n0_ := Aside0.mk (Kd.R_elder' (rs HO_7) (Kd.R_base ho23) hb); have n1_ := Aside0.mk (Kd.R_elder' (rs HO_8) (Kd.R_base ho23) hb); have n2_ := Aside0.mk (Kd.R_elder' (rs HO660) (Kd.R_base ho23) hb); have n3_ := Aside0.mk (Kd.R_lower (Kd.R_new' (Kd.R_new' (Kd.R_new' ho23 (Kd.R_lt (rs HO_7))) (Kd.R_lt (rs HO_8))) (Kd.R_lt (rs HO660))) (below_size (bs HB))); have n4_ := Aside0.mk (below_step (bs HB) hb); clear HO_7; clear HO_8; clear HO660; clear HB; have HO_7 := n0_; have HO_8 := n1_; have HO660 := n2_; have HO665 := n3_; have HB := n4_; clear n0_ n1_ n2_ n3_ n4_; clear hb ho23; obtain ⟨Ao24, co24, eo24⟩ := Kd.R_slice HO665.out; subst eo24) | (go_at_call 84; (with_reducible refine (spec_l01Times.calls k1 a0 _ _ x8_1 _ _ y663 t666 _ ?side1 ?side2 ?side3 ?side4 A18.out).mono ?_); (case side1 => exact cs ((Kd.R_reads' HO_8.out).2.2)); (case side2 => exact (Kd.R_reads' HO_8.out).2.1); (case side3 => exact cs ((Kd.R_reads' HO665.out).2.2)); (case side4 => exact (Kd.R_reads' HO665.out).2.1); rintro e w25 ⟨v667, rfl, ho0, hb⟩; have n0_ := Aside0.mk (Kd.R_elder' (rs HO_7) (Kd.R_base ho0) hb); have n1_ := Aside0.mk (Kd.R_elder' (rs HO_8) (Kd.R_base ho0) hb); have n2_ := Aside0.mk (Kd.R_elder' (rs HO660) (Kd.R_base ho0) hb); have n3_ := Aside0.mk (Kd.R_elder' (rs HO665) (Kd.R_base ho0) hb); have n4_ := Aside0.mk (Kd.R_lower (Kd.R_new' (Kd.R_new' (Kd.R_new' (Kd.R_new' ho0 (Kd.R_lt (rs HO_7))) (Kd.R_lt (rs HO_8))) (Kd.R_lt (rs HO660))) (Kd.R_lt (rs HO665))) (below_size (bs HB))); have n5_ := Aside0.mk (below_step (bs HB) hb); clear HO_7; clear HO_8; clear HO660; clear HO665; clear HB; have HO_7 := n0_; have HO_8 := n1_; have HO660 := n2_; have HO665 := n3_; have HO668 := n4_; have HB := n5_; clear n0_ n1_ n2_ n3_ n4_ n5_; (try clear hb); (try clear hb2); (try clear hk); (try clear hi); (try clear ho0))))
              go_roundg k1
              case measure => have := HK1.out; omega
              case rel => exact ⟨(t658), (t666), (wrap64 (x9_1 + 1)), ea_, H', ⟨by have := HK1.out; omega⟩, ⟨by (with_reducible repeat (first | apply Kd.R_alloc | apply Kd.R_drewN | apply Kd.R_drew)); exact Kd.R_mono HO660.out (fun _ hk => hk.2)⟩, ⟨by (with_reducible repeat (first | apply Kd.R_alloc | apply Kd.R_drewN | apply Kd.R_drew)); exact Kd.R_mono HO668.out (fun _ hk => hk.1.2)⟩, ⟨by repeat (first | (with_reducible first | exact HB.out | apply below_alloc | apply pw_below_drewN | apply below_drew1) | exact HB.out)⟩⟩
          · rw [if_neg c10] at H
            exact absurd H (by simp)
        · rw [if_neg c9] at H
          exact absurd H (by simp)
      · rw [if_neg c8] at H
        have c8b0 : decide (x9_1 < (l1.length : Int)) = false := decide_eq_false c8
        clear c8
        obtain rfl := Option.some.inj H
        go_wp2
        repeat (go_quiet (fail); try go_wp2)
        go_ret
        exact ⟨_, by first | rfl | (simp [errW_none, errW_some] <;> rfl) | (simp [*, errW_none, errW_some] <;> rfl), by (with_reducible repeat (first | apply Kd.R_alloc | apply Kd.R_drewN | apply Kd.R_drew)); exact Kd.R_mono HO_7.out (fun _ hk => trivial), by repeat (first | (with_reducible first | exact HB.out | apply below_alloc | apply pw_below_drewN | apply below_drew1) | exact HB.out)⟩

end Go.Proofs.Ytepigphelclpcaa.H
-- written by wip/drive.py (the session's own program) over the translation; Lean checks it
namespace Go.Proofs.Ytepigphelclpcaa.H
open Go.RowKit Go.Proofs.YtepigphelclpcaaW.PrintWords Go.Proofs.YtepigphelclpcaaW.PrintLast Go.Proofs.YtepigphelclpcaaW.PrintMore
attribute [local go_sem] max2_int min2_int max_two min_two max_three min_three max_four min_four   -- for this text's walks alone
set_option linter.unusedVariables false
set_option linter.unusedSimpArgs false

/-! ### spec_InterpolatePoly: function 40 -/
def spec_InterpolatePoly.f (k : Nat) (a0 : Int) (l1 : List Int) (l2 : List Int) : Option (List Int × Int) := (spec_l01Prime.f k a0).bind fun t669 => (if t669 = true then (if (l1.length : Int) > 25 then (some (([] : List Int), 2)) else (if (l2.length : Int) = (l1.length : Int) then ((spec_l01Points.f k a0 l1 true).bind fun t670 => (if t670 = true then ((spec_l01Points.f k a0 l2 false).bind fun t671 => (if t671 = true then ((spec_l01Interpolate.f k a0 l1 l2).bind fun t672 => (some (t672, 0))) else (some (([] : List Int), 2)))) else (some (([] : List Int), 2)))) else (some (([] : List Int), 2)))) else (some (([] : List Int), 2)))
theorem spec_InterpolatePoly.mono : ∀ a0 a1 a2 k, LeO (spec_InterpolatePoly.f k a0 a1 a2) (spec_InterpolatePoly.f (k + 1) a0 a1 a2) := by
  intro a0 a1 a2 k
  unfold spec_InterpolatePoly.f
  repeat' first
      | (with_reducible exact spec_l01Interpolate.mono _ _ _ _)
      | (with_reducible exact spec_l01Points.mono _ _ _ _)
      | (with_reducible exact spec_l01Prime.mono _ _)
      | (with_reducible exact LeO.refl _)
      | (with_reducible exact LeO.none _)
      | (with_reducible refine LeO.ite ?_ ?_)
      | (with_reducible refine LeO.bind ?_ (fun _ => ?_))
      | exact spec_l01Interpolate.mono _ _ _ _
      | exact spec_l01Points.mono _ _ _ _
      | exact spec_l01Prime.mono _ _
      | exact LeO.none _
      | refine LeO.ite ?_ ?_
      | refine LeO.bind ?_ (fun _ => ?_)
set_option maxHeartbeats 8000000 in
set_option maxRecDepth 100000 in
theorem spec_InterpolatePoly.calls (k : Nat) (a0 : Int) (A1 : Option Addr) (c1 : Nat) (l1 : List Int) (A2 : Option Addr) (c2 : Nat) (l2 : List Int) (r1 : List Int) (r2 : Int) (w : World) (hr1 : Kd.C (Kd.int .i64) w A1 l1.length l1) (hc1 : l1.length ≤ c1) (hr2 : Kd.C (Kd.int .i64) w A2 l2.length l2) (hc2 : l2.length ≤ c2) (h : spec_InterpolatePoly.f k a0 l1 l2 = some (r1, r2)) :
    Calls Try.prog 40 #[.int .i64 a0, .slice A1 l1.length c1, .slice A2 l2.length c2] w fun e w' => ∃ v0_ : Value, e = .returned (.tuple #[v0_, .int .i64 r2]) ∧ Kd.R (Kd.int .i64) 2 w' w.heap.size (fun _ => True) v0_ r1 ∧ Below w.heap.size w w' := by
  have HR1 := Aside0.mk hr1
  have HC1 := Aside0.mk hc1
  clear hr1 hc1
  have HR2 := Aside0.mk hr2
  have HC2 := Aside0.mk hc2
  clear hr2 hc2
  have HB := Aside0.mk (Below.refl w.heap.size w)
  have H : ((spec_l01Prime.f k a0).bind fun t669 => (if t669 = true then (if (l1.length : Int) > 25 then (some (([] : List Int), 2)) else (if (l2.length : Int) = (l1.length : Int) then ((spec_l01Points.f k a0 l1 true).bind fun t670 => (if t670 = true then ((spec_l01Points.f k a0 l2 false).bind fun t671 => (if t671 = true then ((spec_l01Interpolate.f k a0 l1 l2).bind fun t672 => (some (t672, 0))) else (some (([] : List Int), 2)))) else (some (([] : List Int), 2)))) else (some (([] : List Int), 2)))) else (some (([] : List Int), 2)))) = some (r1, r2) := h
  clear h
  replace H := Option.bind_eq_some_iff.mp H
  obtain ⟨t669, A40, H⟩ := H
  have A4 := Aside0.mk A40
  clear A40
  by_cases c5 : t669 = true
  · subst c5
    have H1 : (if (l1.length : Int) > 25 then (some (([] : List Int), 2)) else (if (l2.length : Int) = (l1.length : Int) then ((spec_l01Points.f k a0 l1 true).bind fun t670 => (if t670 = true then ((spec_l01Points.f k a0 l2 false).bind fun t671 => (if t671 = true then ((spec_l01Interpolate.f k a0 l1 l2).bind fun t672 => (some (t672, 0))) else (some (([] : List Int), 2)))) else (some (([] : List Int), 2)))) else (some (([] : List Int), 2)))) = some (r1, r2) := by rw [if_pos rfl] at H; exact H
    clear H
    have H := H1
    clear H1
    by_cases c6 : (l1.length : Int) > 25
    · rw [if_pos c6] at H
      have c6b0 : decide (25 < (l1.length : Int)) = true := decide_eq_true c6
      have c6b1 : decide (25 < l1.length) = true := decide_eq_true (by omega)
      clear c6
      simp only [Option.some.injEq, Prod.mk.injEq] at H
      obtain ⟨rfl, rfl⟩ := H
      go_enter Try.func40, Try.ntmps40
      go_wp2_with (first | ((with_reducible refine gate_callee (f := 43) rfl ?_); refine goesM_ (some 9) rfl rfl Try.func43 #[.int .i64 a0] rfl ?_; (with_reducible refine (spec_l01Prime.calls k a0 true _ A4.out).mono ?_); rintro e w' ⟨rfl, ⟨nd, rfl⟩⟩; refine ⟨_, rfl, ?_⟩))
      go_ret2
      exact ⟨_, by first | rfl | (simp [errW_none, errW_some] <;> rfl) | (simp [*, errW_none, errW_some] <;> rfl), by first | exact Kd.R_nil _ _ _ _ _ | exact Kd.N_nil _ _ _ _ _ | exact Kd.V_nil _ _ _ _ _ | exact Kd.Q_nil _ _ _ _ _ | exact Kd.S_nil _ _ _ _ _, by repeat (first | (with_reducible first | exact HB.out | apply below_alloc | apply pw_below_drewN | apply below_drew1) | exact HB.out)⟩
    · rw [if_neg c6] at H
      have c6b0 : decide (25 < (l1.length : Int)) = false := decide_eq_false c6
      have c6b1 : decide (25 < l1.length) = false := decide_eq_false (by omega)
      clear c6
      by_cases c7 : (l2.length : Int) = (l1.length : Int)
      · rw [if_pos c7] at H
        have c7b0 : ((l2.length : Int) == (l1.length : Int)) = true := beq_iff_eq.mpr c7
        have c7b1 : ((l2.length : Int) != (l1.length : Int)) = false := bne_eq_false_iff_eq.mpr c7
        have c7b2 : (l2.length == l1.length) = true := by first | simpa using c7 | (simp at c7 ⊢; omega)
        clear c7
        replace H := Option.bind_eq_some_iff.mp H
        obtain ⟨t670, A80, H⟩ := H
        have A8 := Aside0.mk A80
        clear A80
        by_cases c9 : t670 = true
        · subst c9
          have H1 : ((spec_l01Points.f k a0 l2 false).bind fun t671 => (if t671 = true then ((spec_l01Interpolate.f k a0 l1 l2).bind fun t672 => (some (t672, 0))) else (some (([] : List Int), 2)))) = some (r1, r2) := by rw [if_pos rfl] at H; exact H
          clear H
          have H := H1
          clear H1
          replace H := Option.bind_eq_some_iff.mp H
          obtain ⟨t671, A100, H⟩ := H
          have A10 := Aside0.mk A100
          clear A100
          by_cases c11 : t671 = true
          · subst c11
            have H1 : ((spec_l01Interpolate.f k a0 l1 l2).bind fun t672 => (some (t672, 0))) = some (r1, r2) := by rw [if_pos rfl] at H; exact H
            clear H
            have H := H1
            clear H1
            replace H := Option.bind_eq_some_iff.mp H
            obtain ⟨t672, A120, H⟩ := H
            have A12 := Aside0.mk A120
            clear A120
            simp only [Option.some.injEq, Prod.mk.injEq] at H
            obtain ⟨rfl, rfl⟩ := H
            go_enter Try.func40, Try.ntmps40
            go_wp2_with (first | ((with_reducible refine gate_callee (f := 43) rfl ?_); refine goesM_ (some 9) rfl rfl Try.func43 #[.int .i64 a0] rfl ?_; (with_reducible refine (spec_l01Prime.calls k a0 true _ A4.out).mono ?_); rintro e w' ⟨rfl, ⟨nd, rfl⟩⟩; refine ⟨_, rfl, ?_⟩) | (go_at_call 44; (with_reducible refine (spec_l01Points.calls k a0 _ _ l1 true true _ ?side1 ?side2 A8.out).mono ?_); (case side1 => exact cs (HR1.out)); (case side2 => exact HC1.out); rintro e w' ⟨rfl, ⟨nd, rfl⟩⟩) | (go_at_call 44; (with_reducible refine (spec_l01Points.calls k a0 _ _ l2 false true _ ?side1 ?side2 A10.out).mono ?_); (case side1 => exact cs (HR2.out)); (case side2 => exact HC2.out); rintro e w' ⟨rfl, ⟨nd, rfl⟩⟩) | ((with_reducible refine gate_callee (f := 73) rfl ?_); refine goesM_ (some 38) rfl rfl Try.func73 #[.int .i64 a0, .slice A1 l1.length c1, .slice A2 l2.length c2] rfl ?_; (with_reducible refine (spec_l01Interpolate.calls k a0 _ _ l1 _ _ l2 t672 _ ?side1 ?side2 ?side3 ?side4 A12.out).mono ?_); (case side1 => exact cs (HR1.out)); (case side2 => exact HC1.out); (case side3 => exact cs (HR2.out)); (case side4 => exact HC2.out); rintro e w13 ⟨v673, rfl, ho0, hb⟩; refine ⟨_, rfl, ?_⟩; have n0_ := Aside0.mk (Kd.R_lower ho0 (below_size (bs HB))); have n1_ := Aside0.mk (below_step (bs HB) hb); clear HB; have HO674 := n0_; have HB := n1_; clear n0_ n1_; (try clear hb); (try clear hb2); (try clear hk); (try clear hi); (try clear ho0)))
            go_ret2
            exact ⟨_, by first | rfl | (simp [errW_none, errW_some] <;> rfl) | (simp [*, errW_none, errW_some] <;> rfl), by (with_reducible repeat (first | apply Kd.R_alloc | apply Kd.R_drewN | apply Kd.R_drew)); exact HO674.out, by repeat (first | (with_reducible first | exact HB.out | apply below_alloc | apply pw_below_drewN | apply below_drew1) | exact HB.out)⟩
          · replace c11 := Bool.eq_false_iff.mpr c11
            subst c11
            have H1 : (some (([] : List Int), 2)) = some (r1, r2) := by rw [if_neg (show ¬ (false = true) by decide)] at H; exact H
            clear H
            have H := H1
            clear H1
            simp only [Option.some.injEq, Prod.mk.injEq] at H
            obtain ⟨rfl, rfl⟩ := H
            go_enter Try.func40, Try.ntmps40
            go_wp2_with (first | ((with_reducible refine gate_callee (f := 43) rfl ?_); refine goesM_ (some 9) rfl rfl Try.func43 #[.int .i64 a0] rfl ?_; (with_reducible refine (spec_l01Prime.calls k a0 true _ A4.out).mono ?_); rintro e w' ⟨rfl, ⟨nd, rfl⟩⟩; refine ⟨_, rfl, ?_⟩) | (go_at_call 44; (with_reducible refine (spec_l01Points.calls k a0 _ _ l1 true true _ ?side1 ?side2 A8.out).mono ?_); (case side1 => exact cs (HR1.out)); (case side2 => exact HC1.out); rintro e w' ⟨rfl, ⟨nd, rfl⟩⟩) | (go_at_call 44; (with_reducible refine (spec_l01Points.calls k a0 _ _ l2 false false _ ?side1 ?side2 A10.out).mono ?_); (case side1 => exact cs (HR2.out)); (case side2 => exact HC2.out); rintro e w' ⟨rfl, ⟨nd, rfl⟩⟩))
            go_ret2
            exact ⟨_, by first | rfl | (simp [errW_none, errW_some] <;> rfl) | (simp [*, errW_none, errW_some] <;> rfl), by first | exact Kd.R_nil _ _ _ _ _ | exact Kd.N_nil _ _ _ _ _ | exact Kd.V_nil _ _ _ _ _ | exact Kd.Q_nil _ _ _ _ _ | exact Kd.S_nil _ _ _ _ _, by repeat (first | (with_reducible first | exact HB.out | apply below_alloc | apply pw_below_drewN | apply below_drew1) | exact HB.out)⟩
        · replace c9 := Bool.eq_false_iff.mpr c9
          subst c9
          have H1 : (some (([] : List Int), 2)) = some (r1, r2) := by rw [if_neg (show ¬ (false = true) by decide)] at H; exact H
          clear H
          have H := H1
          clear H1
          simp only [Option.some.injEq, Prod.mk.injEq] at H
          obtain ⟨rfl, rfl⟩ := H
          go_enter Try.func40, Try.ntmps40
          go_wp2_with (first | ((with_reducible refine gate_callee (f := 43) rfl ?_); refine goesM_ (some 9) rfl rfl Try.func43 #[.int .i64 a0] rfl ?_; (with_reducible refine (spec_l01Prime.calls k a0 true _ A4.out).mono ?_); rintro e w' ⟨rfl, ⟨nd, rfl⟩⟩; refine ⟨_, rfl, ?_⟩) | (go_at_call 44; (with_reducible refine (spec_l01Points.calls k a0 _ _ l1 true false _ ?side1 ?side2 A8.out).mono ?_); (case side1 => exact cs (HR1.out)); (case side2 => exact HC1.out); rintro e w' ⟨rfl, ⟨nd, rfl⟩⟩))
          go_ret2
          exact ⟨_, by first | rfl | (simp [errW_none, errW_some] <;> rfl) | (simp [*, errW_none, errW_some] <;> rfl), by first | exact Kd.R_nil _ _ _ _ _ | exact Kd.N_nil _ _ _ _ _ | exact Kd.V_nil _ _ _ _ _ | exact Kd.Q_nil _ _ _ _ _ | exact Kd.S_nil _ _ _ _ _, by repeat (first | (with_reducible first | exact HB.out | apply below_alloc | apply pw_below_drewN | apply below_drew1) | exact HB.out)⟩
      · rw [if_neg c7] at H
        have c7b0 : ((l2.length : Int) == (l1.length : Int)) = false := beq_eq_false_iff_ne.mpr c7
        have c7b1 : ((l2.length : Int) != (l1.length : Int)) = true := bne_iff_ne.mpr c7
        have c7b2 : (l2.length == l1.length) = false := by first | simpa using c7 | (simp at c7 ⊢; omega)
        simp only [Option.some.injEq, Prod.mk.injEq] at H
        obtain ⟨rfl, rfl⟩ := H
        go_enter Try.func40, Try.ntmps40
        go_wp2_with (first | ((with_reducible refine gate_callee (f := 43) rfl ?_); refine goesM_ (some 9) rfl rfl Try.func43 #[.int .i64 a0] rfl ?_; (with_reducible refine (spec_l01Prime.calls k a0 true _ A4.out).mono ?_); rintro e w' ⟨rfl, ⟨nd, rfl⟩⟩; refine ⟨_, rfl, ?_⟩))
        go_ret2
        exact ⟨_, by first | rfl | (simp [errW_none, errW_some] <;> rfl) | (simp [*, errW_none, errW_some] <;> rfl), by first | exact Kd.R_nil _ _ _ _ _ | exact Kd.N_nil _ _ _ _ _ | exact Kd.V_nil _ _ _ _ _ | exact Kd.Q_nil _ _ _ _ _ | exact Kd.S_nil _ _ _ _ _, by repeat (first | (with_reducible first | exact HB.out | apply below_alloc | apply pw_below_drewN | apply below_drew1) | exact HB.out)⟩
  · replace c5 := Bool.eq_false_iff.mpr c5
    subst c5
    have H1 : (some (([] : List Int), 2)) = some (r1, r2) := by rw [if_neg (show ¬ (false = true) by decide)] at H; exact H
    clear H
    have H := H1
    clear H1
    simp only [Option.some.injEq, Prod.mk.injEq] at H
    obtain ⟨rfl, rfl⟩ := H
    go_enter Try.func40, Try.ntmps40
    go_wp2_with (first | ((with_reducible refine gate_callee (f := 43) rfl ?_); refine goesM_ (some 9) rfl rfl Try.func43 #[.int .i64 a0] rfl ?_; (with_reducible refine (spec_l01Prime.calls k a0 false _ A4.out).mono ?_); rintro e w' ⟨rfl, ⟨nd, rfl⟩⟩; refine ⟨_, rfl, ?_⟩))
    go_ret2
    exact ⟨_, by first | rfl | (simp [errW_none, errW_some] <;> rfl) | (simp [*, errW_none, errW_some] <;> rfl), by first | exact Kd.R_nil _ _ _ _ _ | exact Kd.N_nil _ _ _ _ _ | exact Kd.V_nil _ _ _ _ _ | exact Kd.Q_nil _ _ _ _ _ | exact Kd.S_nil _ _ _ _ _, by repeat (first | (with_reducible first | exact HB.out | apply below_alloc | apply pw_below_drewN | apply below_drew1) | exact HB.out)⟩

end Go.Proofs.Ytepigphelclpcaa.H
