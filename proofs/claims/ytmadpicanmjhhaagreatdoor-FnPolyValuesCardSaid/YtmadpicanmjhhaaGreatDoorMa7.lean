/- Joined texts of a claim: the printed functions and what is proved of them. -/
import Derived.Test.YtmadpicanmjhhaaGreatDoorYHx0
import Derived.Test.YtmadpicanmjhhaaGreatDoorMa5
import Derived.Test.YtmadpicanmjhhaaGreatDoorMa6
import Derived.Test.YtmadpicanmjhhaaGreatDoorMa1
import Derived.Lib.ItoaNum
import Derived.Lib.Atoi
import Derived.Lib.ParseIntB
import Derived.Lib.SplitLaws
import Derived.Lib.Join
import Derived.Test.YtmadpicanmjhhaaGreatDoorShelf
import Derived.Test.YtmadpicanmjhhaaGreatDoorMa2
import Derived.Test.YtmadpicanmjhhaaGreatDoorMa4
import Derived.Shelf.LaysM
import Derived.Shelf.LaysC
import Derived.Shelf.Strconv.ParseIntPublic10
import Derived.Shelf.Strconv.ErrVarParseInt
import Derived.Shelf.Strings.Split
import Derived.Shelf.Strings.SplitShaped
import Derived.Test.YtmadpicanmjhhaaGreatDoorProg
import Derived.Test.YtmadpicanmjhhaaGreatDoorYWWords
namespace Go.Proofs.YtmadpicanmjhhaaGreatDoor.H
open Go.RowKit Go.Proofs.YtmadpicanmjhhaaGreatDoorW.PrintWords Go.Proofs.YtmadpicanmjhhaaGreatDoorW.PrintLast Go.Proofs.YtmadpicanmjhhaaGreatDoorW.PrintMore
attribute [local go_sem] max2_int min2_int max_two min_two max_three min_three max_four min_four   -- for this text's walks alone
set_option linter.unusedVariables false
set_option linter.unusedSimpArgs false
def spec_ComposePolys.f (k : Nat) (a0 : Int) (l1 : List Int) (l2 : List Int) : Option (List Int × Int) := (spec_l01Code.f k a0 (([l1, l2] : List (List Int)))).bind fun t640 => (if t640 = 0 then (if (wrap64 ((mx (wrap64 ((l1.length : Int) - 1)) 0) * (mx (wrap64 ((l2.length : Int) - 1)) 0))) > 24 then (some (([] : List Int), 3)) else ((spec_l01Compose.f k a0 l1 l2).bind fun t641 => (some (t641, 0)))) else (some (([] : List Int), t640)))
set_option maxHeartbeats 8000000 in
set_option maxRecDepth 100000 in
theorem spec_ComposePolys.calls (k : Nat) (a0 : Int) (P1_ : Nat → Prop) (A1 : Option Addr) (c1 : Nat) (l1 : List Int) (P2_ : Nat → Prop) (A2 : Option Addr) (c2 : Nat) (l2 : List Int) (r1 : List Int) (r2 : Int) (w : World) (hs1 : Kd.V (Kd.int .i64) 2 w w.heap.size (fun k_ => P1_ k_) (.slice A1 l1.length c1) l1) (hs2 : Kd.V (Kd.int .i64) 2 w w.heap.size (fun k_ => P2_ k_) (.slice A2 l2.length c2) l2) (h : spec_ComposePolys.f k a0 l1 l2 = some (r1, r2)) :
  Calls Tryz.prog 15 #[.int .i64 a0, .slice A1 l1.length c1, .slice A2 l2.length c2] w fun e w' => ∃ v0_ : Value, e = .returned (.tuple #[v0_, .int .i64 r2]) ∧ Kd.R (Kd.int .i64) 2 w' w.heap.size (fun k_ => (w.heap.size ≤ k_)) v0_ r1 ∧ Below w.heap.size w w' := by
 have HO1 := as0 (show Kd.V (Kd.int .i64) 2 w w.heap.size (fun k_ => ((P1_ k_ ∨ P2_ k_) ∨ w.heap.size ≤ k_)) (.slice A1 l1.length c1) l1 from Kd.V_mono hs1 (fun k_ hk => .inl (.inl hk)))
 have HO2 := as0 (show Kd.V (Kd.int .i64) 2 w w.heap.size (fun k_ => ((P1_ k_ ∨ P2_ k_) ∨ w.heap.size ≤ k_)) (.slice A2 l2.length c2) l2 from Kd.V_mono hs2 (fun k_ hk => .inl (.inr hk)))
 have HB := as0 (Below.refl w.heap.size w)
 have H : ((spec_l01Code.f k a0 (([l1, l2] : List (List Int)))).bind fun t640 => (if t640 = 0 then (if (wrap64 ((mx (wrap64 ((l1.length : Int) - 1)) 0) * (mx (wrap64 ((l2.length : Int) - 1)) 0))) > 24 then (some (([] : List Int), 3)) else ((spec_l01Compose.f k a0 l1 l2).bind fun t641 => (some (t641, 0)))) else (some (([] : List Int), t640)))) = some (r1, r2) := h
 clear h
 obtain ⟨y637, hy637⟩ : ∃ y_ : List (List Int), y_ = (([l1, l2] : List (List Int))) := ⟨_, rfl⟩
 replace H : ((spec_l01Code.f k a0 y637).bind fun t640 => (if t640 = 0 then (if (wrap64 ((mx (wrap64 ((l1.length : Int) - 1)) 0) * (mx (wrap64 ((l2.length : Int) - 1)) 0))) > 24 then (some (([] : List Int), 3)) else ((spec_l01Compose.f k a0 l1 l2).bind fun t641 => (some (t641, 0)))) else (some (([] : List Int), t640)))) = some (r1, r2) := by first | (rw [hy637]; with_reducible exact H) | (have H2_ := (Option.bind_some _ _).symm.trans H; rw [hy637]; with_reducible exact H2_) | (have H2_ := (Option.bind_some _ _).symm.trans H; with_reducible exact H2_) | with_reducible exact H | (rw [hy637]; exact H) | exact H
 have Ny637 := as0 hy637
 clear hy637
 replace H := Option.bind_eq_some_iff.mp H
 obtain ⟨t640, A40, H⟩ := H
 have A4 := as0 A40
 clear A40
 by_cases c5 : t640 = 0
 ·
  rw [if_pos c5] at H
  have c5b0 : (t640 == 0) = true := beq_iff_eq.mpr c5
  have c5b1 : (t640 != 0) = false := bne_eq_false_iff_eq.mpr c5
  clear c5
  obtain ⟨ji6, hji6⟩ : ∃ j_ : Int, (mx (wrap64 ((l1.length : Int) - 1)) 0) = j_ := ⟨_, rfl⟩
  replace H : (if (wrap64 ((ji6) * (mx (wrap64 ((l2.length : Int) - 1)) 0))) > 24 then (some (([] : List Int), 3)) else ((spec_l01Compose.f k a0 l1 l2).bind fun t641 => (some (t641, 0)))) = some (r1, r2) := by first | (rw [hji6] at H; exact H) | (simp only [hji6] at H ⊢; exact H)
  (try rw [hji6] at A4)
  (try (have hji6l : 0 ≤ ji6 := by (rw [← hji6]; unfold mx; (repeat' split) <;> omega)))
  (try (have hji6m : 0 ≤ ji6 := by omega))
  have hji6_ : (if (wrap64 ((l1.length : Int) - 1)) < 0 then 0 else (wrap64 ((l1.length : Int) - 1))) = ji6 := hji6
  obtain ⟨ji7, hji7⟩ : ∃ j_ : Int, (mx (wrap64 ((l2.length : Int) - 1)) 0) = j_ := ⟨_, rfl⟩
  replace H : (if (wrap64 ((ji6) * (ji7))) > 24 then (some (([] : List Int), 3)) else ((spec_l01Compose.f k a0 l1 l2).bind fun t641 => (some (t641, 0)))) = some (r1, r2) := by first | (rw [hji7] at H; exact H) | (simp only [hji7] at H ⊢; exact H)
  (try rw [hji7] at A4)
  (try (have hji7l : 0 ≤ ji7 := by (rw [← hji7]; unfold mx; (repeat' split) <;> omega)))
  (try (have hji7m : 0 ≤ ji7 := by omega))
  have hji7_ : (if (wrap64 ((l2.length : Int) - 1)) < 0 then 0 else (wrap64 ((l2.length : Int) - 1))) = ji7 := hji7
  by_cases c8 : (wrap64 ((ji6) * (ji7))) > 24
  ·
   rw [if_pos c8] at H
   have c8b0 : decide (24 < (wrap64 ((ji6) * (ji7)))) = true := decide_eq_true c8
   clear c8
   simp only [Option.some.injEq, Prod.mk.injEq] at H
   obtain ⟨rfl, rfl⟩ := H
   go_enter Tryz.func15, Tryz.ntmps15
   go_wp2_with (first | ((with_reducible refine gate_dst (N := 12) rfl ?_); refine Kd.N_lit (Kd.slice 2 (Kd.int .i64)) _ 24 ?hg (N' := 12) ?hd (xs := ([l1, l2] : List (List Int))) (inner := [.slice A1 l1.length c1, .slice A2 l2.length c2]) (ok := (fun k_ => ((P1_ k_ ∨ P2_ k_) ∨ w.heap.size ≤ k_))) (okp := (fun k_ => ((P1_ k_ ∨ P2_ k_) ∨ w.heap.size ≤ k_))) ?hr ?hp (fun _ hk => hk) ((show ∀ k_, w.heap.size ≤ k_ → (fun k_ => ((P1_ k_ ∨ P2_ k_) ∨ w.heap.size ≤ k_)) k_ from fun k_ hk => (.inr (Nat.le_trans (below_size (bs HB)) hk))) _ (Nat.le_refl _)) (Below.refl _ _) (Nat.le_refl _) (by simp) ?_; (case hd => rfl); (case hg => rfl); (case hr => first | (go_simp; done) | (go_simp; rfl)); (case hp => exact (Reps.one (show Kd.FK (Kd.slice 2 (Kd.int .i64)) _ _ l1 [.slice A1 l1.length c1] from (Kd.FK_slice_mk (Kd.V_reads' (Kd.V_mono (ok' := (fun k_ => ((P1_ k_ ∨ P2_ k_) ∨ w.heap.size ≤ k_))) (HO1.out) (fun k_ hk => hk))).2.1 (Kd.V_F (Kd.V_mono (ok' := (fun k_ => ((P1_ k_ ∨ P2_ k_) ∨ w.heap.size ≤ k_))) (HO1.out) (fun k_ hk => hk))))) (Reps.one (show Kd.FK (Kd.slice 2 (Kd.int .i64)) _ _ l2 [.slice A2 l2.length c2] from (Kd.FK_slice_mk (Kd.V_reads' (Kd.V_mono (ok' := (fun k_ => ((P1_ k_ ∨ P2_ k_) ∨ w.heap.size ≤ k_))) (HO2.out) (fun k_ hk => hk))).2.1 (Kd.V_F (Kd.V_mono (ok' := (fun k_ => ((P1_ k_ ∨ P2_ k_) ∨ w.heap.size ≤ k_))) (HO2.out) (fun k_ hk => hk))))) (Reps.none _ _)))); intro v638 w9 ho10 hb hg_ hnew_; clear hg_ hnew_; (first | rw [← Ny637.out] at ho10 | (simp only [Int.reduceToNat] at ho10; rw [← Ny637.out] at ho10)); have n0_ := as0 (Kd.V_elder' (by (with_reducible repeat (first | apply Kd.V_alloc | apply Kd.V_drewN | apply Kd.V_drew)); exact HO1.out) (Kd.N_base ho10) hb); have n1_ := as0 (Kd.V_elder' (by (with_reducible repeat (first | apply Kd.V_alloc | apply Kd.V_drewN | apply Kd.V_drew)); exact HO2.out) (Kd.N_base ho10) hb); have n2_ := as0 (Kd.N_lower ho10 (below_size (bs HB))); have n3_ := as0 (below_step (bs HB) hb); clear HO1; clear HO2; clear HB; have HO1 := n0_; have HO2 := n1_; have HO639 := n2_; have HB := n3_; clear n0_ n1_ n2_ n3_; clear hb ho10; obtain ⟨Ao11, co11, eo11⟩ := Kd.N_slice HO639.out; subst eo11) | ((with_reducible refine gate_callee (f := 42) rfl ?_); refine goesM_ (some 13) rfl rfl Tryz.func42 #[.int .i64 a0, .slice Ao11 y637.length co11] rfl ?_; (with_reducible refine (spec_l01Code.calls k a0 _ _ y637 t640 _ ?side1 ?side2 A4.out).mono ?_); (case side1 => exact cs ((Kd.N_reads' HO639.out).2.2)); (case side2 => exact (Kd.N_reads' HO639.out).2.1); rintro e w' ⟨rfl, ⟨nd, rfl⟩⟩; refine ⟨_, rfl, ?_⟩))
   go_ret2
   exact ⟨_, by first | rfl | (simp [errW_none, errW_some] <;> rfl) | (simp only [← hji6, ← hji7]; first | rfl | (simp [errW_none, errW_some] <;> rfl)) | (simp [*, errW_none, errW_some] <;> rfl), by first | exact Kd.R_nil _ _ _ _ _ | exact Kd.N_nil _ _ _ _ _ | exact Kd.V_nil _ _ _ _ _ | exact Kd.Q_nil _ _ _ _ _ | exact Kd.S_nil _ _ _ _ _, bs HB⟩
  ·
   rw [if_neg c8] at H
   have c8b0 : decide (24 < (wrap64 ((ji6) * (ji7)))) = false := decide_eq_false c8
   clear c8
   replace H := Option.bind_eq_some_iff.mp H
   obtain ⟨t641, A120, H⟩ := H
   have A12 := as0 A120
   clear A120
   simp only [Option.some.injEq, Prod.mk.injEq] at H
   obtain ⟨rfl, rfl⟩ := H
   go_enter Tryz.func15, Tryz.ntmps15
   go_wp2_with (first | ((with_reducible refine gate_dst (N := 12) rfl ?_); refine Kd.N_lit (Kd.slice 2 (Kd.int .i64)) _ 24 ?hg (N' := 12) ?hd (xs := ([l1, l2] : List (List Int))) (inner := [.slice A1 l1.length c1, .slice A2 l2.length c2]) (ok := (fun k_ => ((P1_ k_ ∨ P2_ k_) ∨ w.heap.size ≤ k_))) (okp := (fun k_ => ((P1_ k_ ∨ P2_ k_) ∨ w.heap.size ≤ k_))) ?hr ?hp (fun _ hk => hk) ((show ∀ k_, w.heap.size ≤ k_ → (fun k_ => ((P1_ k_ ∨ P2_ k_) ∨ w.heap.size ≤ k_)) k_ from fun k_ hk => (.inr (Nat.le_trans (below_size (bs HB)) hk))) _ (Nat.le_refl _)) (Below.refl _ _) (Nat.le_refl _) (by simp) ?_; (case hd => rfl); (case hg => rfl); (case hr => first | (go_simp; done) | (go_simp; rfl)); (case hp => exact (Reps.one (show Kd.FK (Kd.slice 2 (Kd.int .i64)) _ _ l1 [.slice A1 l1.length c1] from (Kd.FK_slice_mk (Kd.V_reads' (Kd.V_mono (ok' := (fun k_ => ((P1_ k_ ∨ P2_ k_) ∨ w.heap.size ≤ k_))) (HO1.out) (fun k_ hk => hk))).2.1 (Kd.V_F (Kd.V_mono (ok' := (fun k_ => ((P1_ k_ ∨ P2_ k_) ∨ w.heap.size ≤ k_))) (HO1.out) (fun k_ hk => hk))))) (Reps.one (show Kd.FK (Kd.slice 2 (Kd.int .i64)) _ _ l2 [.slice A2 l2.length c2] from (Kd.FK_slice_mk (Kd.V_reads' (Kd.V_mono (ok' := (fun k_ => ((P1_ k_ ∨ P2_ k_) ∨ w.heap.size ≤ k_))) (HO2.out) (fun k_ hk => hk))).2.1 (Kd.V_F (Kd.V_mono (ok' := (fun k_ => ((P1_ k_ ∨ P2_ k_) ∨ w.heap.size ≤ k_))) (HO2.out) (fun k_ hk => hk))))) (Reps.none _ _)))); intro v638 w13 ho14 hb hg_ hnew_; clear hg_ hnew_; (first | rw [← Ny637.out] at ho14 | (simp only [Int.reduceToNat] at ho14; rw [← Ny637.out] at ho14)); have n0_ := as0 (Kd.V_elder' (by (with_reducible repeat (first | apply Kd.V_alloc | apply Kd.V_drewN | apply Kd.V_drew)); exact HO1.out) (Kd.N_base ho14) hb); have n1_ := as0 (Kd.V_elder' (by (with_reducible repeat (first | apply Kd.V_alloc | apply Kd.V_drewN | apply Kd.V_drew)); exact HO2.out) (Kd.N_base ho14) hb); have n2_ := as0 (Kd.N_lower ho14 (below_size (bs HB))); have n3_ := as0 (below_step (bs HB) hb); clear HO1; clear HO2; clear HB; have HO1 := n0_; have HO2 := n1_; have HO639 := n2_; have HB := n3_; clear n0_ n1_ n2_ n3_; clear hb ho14; obtain ⟨Ao15, co15, eo15⟩ := Kd.N_slice HO639.out; subst eo15) | ((with_reducible refine gate_callee (f := 42) rfl ?_); refine goesM_ (some 13) rfl rfl Tryz.func42 #[.int .i64 a0, .slice Ao15 y637.length co15] rfl ?_; (with_reducible refine (spec_l01Code.calls k a0 _ _ y637 t640 _ ?side1 ?side2 A4.out).mono ?_); (case side1 => exact cs ((Kd.N_reads' HO639.out).2.2)); (case side2 => exact (Kd.N_reads' HO639.out).2.1); rintro e w' ⟨rfl, ⟨nd, rfl⟩⟩; refine ⟨_, rfl, ?_⟩) | ((with_reducible refine gate_callee (f := 44) rfl ?_); refine goesM_ (some 30) rfl rfl Tryz.func44 #[.int .i64 a0, .slice A1 l1.length c1, .slice A2 l2.length c2] rfl ?_; (with_reducible refine (spec_l01Compose.calls k a0 _ _ l1 _ _ l2 t641 _ ?side1 ?side2 ?side3 ?side4 A12.out).mono ?_); (case side1 => exact cs ((Kd.V_reads' HO1.out).2.2)); (case side2 => exact (Kd.V_reads' HO1.out).2.1); (case side3 => exact cs ((Kd.V_reads' HO2.out).2.2)); (case side4 => exact (Kd.V_reads' HO2.out).2.1); rintro e w16 ⟨v642, rfl, ho0, hb⟩; refine ⟨_, rfl, ?_⟩; have n0_ := as0 (Kd.V_elder' (by (with_reducible repeat (first | apply Kd.V_alloc | apply Kd.V_drewN | apply Kd.V_drew)); exact HO1.out) (Kd.R_base ho0) hb); have n1_ := as0 (Kd.V_elder' (by (with_reducible repeat (first | apply Kd.V_alloc | apply Kd.V_drewN | apply Kd.V_drew)); exact HO2.out) (Kd.R_base ho0) hb); have n2_ := as0 (Kd.N_elder' (by (with_reducible repeat (first | apply Kd.N_alloc | apply Kd.N_drewN | apply Kd.N_drew)); exact HO639.out) (Kd.R_base ho0) hb); have n3_ := as0 (Kd.R_lower (Kd.R_newM (M := fun k_ => (w.heap.size ≤ k_)) ho0 (below_size (bs HB)) (fun k_ h_ => h_)) (below_size (bs HB))); have n4_ := as0 (below_step (bs HB) hb); clear HO1; clear HO2; clear HO639; clear HB; have HO1 := n0_; have HO2 := n1_; have HO639 := n2_; have HO643 := n3_; have HB := n4_; clear n0_ n1_ n2_ n3_ n4_; (try clear hb); (try clear hb2); (try clear hk); (try clear hi); (try clear ho0)))
   go_ret2
   exact ⟨_, by first | rfl | (simp [errW_none, errW_some] <;> rfl) | (simp only [← hji6, ← hji7]; first | rfl | (simp [errW_none, errW_some] <;> rfl)) | (simp [*, errW_none, errW_some] <;> rfl), by (with_reducible repeat (first | apply Kd.R_alloc | apply Kd.R_drewN | apply Kd.R_drew)); exact Kd.R_mono HO643.out (fun _ hk => hk.1), bs HB⟩
 ·
  rw [if_neg c5] at H
  have c5b0 : (t640 == 0) = false := beq_eq_false_iff_ne.mpr c5
  have c5b1 : (t640 != 0) = true := bne_iff_ne.mpr c5
  simp only [Option.some.injEq, Prod.mk.injEq] at H
  obtain ⟨rfl, rfl⟩ := H
  go_enter Tryz.func15, Tryz.ntmps15
  go_wp2_with (first | ((with_reducible refine gate_dst (N := 12) rfl ?_); refine Kd.N_lit (Kd.slice 2 (Kd.int .i64)) _ 24 ?hg (N' := 12) ?hd (xs := ([l1, l2] : List (List Int))) (inner := [.slice A1 l1.length c1, .slice A2 l2.length c2]) (ok := (fun k_ => ((P1_ k_ ∨ P2_ k_) ∨ w.heap.size ≤ k_))) (okp := (fun k_ => ((P1_ k_ ∨ P2_ k_) ∨ w.heap.size ≤ k_))) ?hr ?hp (fun _ hk => hk) ((show ∀ k_, w.heap.size ≤ k_ → (fun k_ => ((P1_ k_ ∨ P2_ k_) ∨ w.heap.size ≤ k_)) k_ from fun k_ hk => (.inr (Nat.le_trans (below_size (bs HB)) hk))) _ (Nat.le_refl _)) (Below.refl _ _) (Nat.le_refl _) (by simp) ?_; (case hd => rfl); (case hg => rfl); (case hr => first | (go_simp; done) | (go_simp; rfl)); (case hp => exact (Reps.one (show Kd.FK (Kd.slice 2 (Kd.int .i64)) _ _ l1 [.slice A1 l1.length c1] from (Kd.FK_slice_mk (Kd.V_reads' (Kd.V_mono (ok' := (fun k_ => ((P1_ k_ ∨ P2_ k_) ∨ w.heap.size ≤ k_))) (HO1.out) (fun k_ hk => hk))).2.1 (Kd.V_F (Kd.V_mono (ok' := (fun k_ => ((P1_ k_ ∨ P2_ k_) ∨ w.heap.size ≤ k_))) (HO1.out) (fun k_ hk => hk))))) (Reps.one (show Kd.FK (Kd.slice 2 (Kd.int .i64)) _ _ l2 [.slice A2 l2.length c2] from (Kd.FK_slice_mk (Kd.V_reads' (Kd.V_mono (ok' := (fun k_ => ((P1_ k_ ∨ P2_ k_) ∨ w.heap.size ≤ k_))) (HO2.out) (fun k_ hk => hk))).2.1 (Kd.V_F (Kd.V_mono (ok' := (fun k_ => ((P1_ k_ ∨ P2_ k_) ∨ w.heap.size ≤ k_))) (HO2.out) (fun k_ hk => hk))))) (Reps.none _ _)))); intro v638 w17 ho18 hb hg_ hnew_; clear hg_ hnew_; (first | rw [← Ny637.out] at ho18 | (simp only [Int.reduceToNat] at ho18; rw [← Ny637.out] at ho18)); have n0_ := as0 (Kd.V_elder' (by (with_reducible repeat (first | apply Kd.V_alloc | apply Kd.V_drewN | apply Kd.V_drew)); exact HO1.out) (Kd.N_base ho18) hb); have n1_ := as0 (Kd.V_elder' (by (with_reducible repeat (first | apply Kd.V_alloc | apply Kd.V_drewN | apply Kd.V_drew)); exact HO2.out) (Kd.N_base ho18) hb); have n2_ := as0 (Kd.N_lower ho18 (below_size (bs HB))); have n3_ := as0 (below_step (bs HB) hb); clear HO1; clear HO2; clear HB; have HO1 := n0_; have HO2 := n1_; have HO639 := n2_; have HB := n3_; clear n0_ n1_ n2_ n3_; clear hb ho18; obtain ⟨Ao19, co19, eo19⟩ := Kd.N_slice HO639.out; subst eo19) | ((with_reducible refine gate_callee (f := 42) rfl ?_); refine goesM_ (some 13) rfl rfl Tryz.func42 #[.int .i64 a0, .slice Ao19 y637.length co19] rfl ?_; (with_reducible refine (spec_l01Code.calls k a0 _ _ y637 t640 _ ?side1 ?side2 A4.out).mono ?_); (case side1 => exact cs ((Kd.N_reads' HO639.out).2.2)); (case side2 => exact (Kd.N_reads' HO639.out).2.1); rintro e w' ⟨rfl, ⟨nd, rfl⟩⟩; refine ⟨_, rfl, ?_⟩))
  go_ret2
  exact ⟨_, er_, by first | exact Kd.R_nil _ _ _ _ _ | exact Kd.N_nil _ _ _ _ _ | exact Kd.V_nil _ _ _ _ _ | exact Kd.Q_nil _ _ _ _ _ | exact Kd.S_nil _ _ _ _ _, bs HB⟩
def spec_DrawPolyText.f (k : Nat) (l0 : List Int) : Option (Int × List Int) := (spec_l01From.f k l0).bind fun bt644 => ((spec_l01One.f k bt644.1 bt644.2.1 bt644.2.2).bind fun bt648 => (some (bt648.1, bt648.2.1)))
set_option maxHeartbeats 8000000 in
set_option maxRecDepth 100000 in
theorem spec_DrawPolyText.calls (k : Nat) (A0 : Option Addr) (c0 : Nat) (l0 : List Int) (r1 : Int) (r2 : List Int) (w : World) (hr0 : Kd.C (Kd.int .u8) w A0 l0.length l0) (hc0 : l0.length ≤ c0) (h : spec_DrawPolyText.f k l0 = some (r1, r2)) :
  Calls Tryz.prog 16 #[.slice A0 l0.length c0] w fun e w' => ∃ v1_ : Value, e = .returned (.tuple #[.int .i64 r1, v1_]) ∧ Kd.R (Kd.int .i64) 2 w' w.heap.size (fun _ => True) v1_ r2 ∧ Below w.heap.size w w' := by
 have HR0 := as0 hr0
 have HC0 := as0 hc0
 clear hr0 hc0
 have HB := as0 (Below.refl w.heap.size w)
 have H : ((spec_l01From.f k l0).bind fun bt644 => ((spec_l01One.f k bt644.1 bt644.2.1 bt644.2.2).bind fun bt648 => (some (bt648.1, bt648.2.1)))) = some (r1, r2) := h
 clear h
 replace H := Option.bind_eq_some_iff.mp H
 obtain ⟨⟨t644, t645, t646⟩, A20, H⟩ := H
 have A2 := as0 A20
 clear A20
 replace H := Option.bind_eq_some_iff.mp H
 obtain ⟨⟨t648, t649, t652, t653⟩, A30, H⟩ := H
 have A3 := as0 A30
 clear A30
 simp only [Option.some.injEq, Prod.mk.injEq] at H
 obtain ⟨rfl, rfl⟩ := H
 go_enter Tryz.func16, Tryz.ntmps16
 go_wp2_with (first | ((with_reducible refine gate_callee (f := 24) rfl ?_); refine goesM_ (some 8) rfl rfl Tryz.func24 #[.slice A0 l0.length c0] rfl ?_; (with_reducible refine (spec_l01From.calls k _ _ l0 t644 t645 t646 w _ ?side1 ?side2 ?side3 A2.out).mono ?_); (case side1 => exact bs HB); (case side2 => exact HR0.out); (case side3 => exact HC0.out); rintro e w4 ⟨g647, rfl, hi, hb, hb2⟩; refine ⟨_, rfl, ?_⟩; have n0_ := as0 (hb); have n1_ := as0 (hi); clear HB; have HB := n0_; have HI647 := n1_; clear n0_ n1_; (try clear hb); (try clear hb2); (try clear hk); (try clear hi)) | ((with_reducible refine gate_callee (f := 38) rfl ?_); refine goesM_ (some 9) rfl rfl Tryz.func38 #[.pointer (some ⟨g647, 0, none⟩)] rfl ?_; (with_reducible refine (spec_l01One.calls k g647 t644 t645 t646 t648 t649 t652 t653 w _ ?side1 ?side2 A3.out).mono ?_); (case side1 => repeat (first | (with_reducible first | exact HI647.out | apply IsS77.alloc | apply IsS77.drewN | apply IsS77.drew | apply IsS77.set_1 | apply IsS77.set_2) | exact HI647.out)); (case side2 => repeat (first | (with_reducible first | exact HB.out | apply below_alloc | apply pw_below_drewN | apply below_drew1 | refine below_set ?_ (IsS77.ge HI647.out)) | exact HB.out)); rintro e w5 ⟨v650, rfl, ho0, hi, hb, hk⟩; refine ⟨_, rfl, ?_⟩; have n0_ := as0 (Kd.R_lower ho0 (below_size (by repeat (first | (with_reducible first | exact HB.out | apply below_alloc | apply pw_below_drewN | apply below_drew1 | refine below_set ?_ (IsS77.ge HI647.out)) | exact HB.out)))); have n1_ := as0 (hb); have n2_ := as0 (hi); clear HB; clear HI647; have HO651 := n0_; have HB := n1_; have HI647 := n2_; clear n0_ n1_ n2_; (try clear hb); (try clear hb2); (try clear hk); (try clear hi); (try clear ho0)))
 go_ret2
 exact ⟨_, er_, rs HO651, by repeat (first | (with_reducible first | exact HB.out | apply below_alloc | apply pw_below_drewN | apply below_drew1 | refine below_set ?_ (IsS77.ge HI647.out)) | exact HB.out)⟩
end Go.Proofs.YtmadpicanmjhhaaGreatDoor.H
set_option linter.unusedVariables false
set_option linter.unusedSimpArgs false
namespace Go.Proofs.YtmadpicanmjhhaaGreatDoor.H
open Go.Lib
theorem digitVal_of {d : Nat} (h : d < 10) : digitVal (UInt8.ofNat (48 + d)) = some d := by
 have e : (UInt8.ofNat (48 + d)).toNat = 48 + d := by simp; omega
 unfold digitVal
 rw [e, if_pos (by omega)]
 congr 1; omega
theorem digitVal_inv {b : UInt8} {d : Nat} (h : digitVal b = some d) : d < 10 ∧ b = UInt8.ofNat (48 + d) := by
 obtain ⟨h1, h2, h3⟩ := digitVal_eq h
 refine ⟨by omega, ?_⟩
 have : 48 + d = b.toNat := by omega
 rw [this]; simp
theorem decFrom_app : ∀ (l : List UInt8) (acc : Nat) (b : UInt8), decFrom acc (l ++ [b]) = (decFrom acc l).bind fun n => (digitVal b).map fun d => n * 10 + d
 | [], acc, b => by
  simp only [List.nil_append, decFrom]
  cases digitVal b <;> rfl
 | a :: r, acc, b => by
  simp only [List.cons_append, decFrom]
  cases digitVal a with
  | none => rfl
  | some d => exact decFrom_app r _ b
theorem decDigits_lo {u : Nat} (h : u < 10) : decDigits u = [UInt8.ofNat (48 + u)] := by rw [decDigits, dif_pos h]
theorem decDigits_hi {u : Nat} (h : ¬ u < 10) : decDigits u = decDigits (u / 10) ++ [UInt8.ofNat (48 + u % 10)] := by rw [decDigits, dif_neg h]
theorem decFrom_dec (u : Nat) : decFrom 0 (decDigits u) = some u := by
 induction u using Nat.strongRecOn with
 | _ u ih =>
  by_cases h : u < 10
  ·
   rw [decDigits_lo h]
   simp only [decFrom, digitVal_of h]
   congr 1; omega
  ·
   rw [decDigits_hi h, decFrom_app, ih (u / 10) (by omega), Option.bind_some, digitVal_of (by omega)]
   show some (u / 10 * 10 + u % 10) = some u
   congr 1; omega
theorem decDigits_ne (u : Nat) : decDigits u ≠ [] := by
 intro h
 have := decFrom_dec u
 have h2 := decDigits_length u
 rw [h] at h2
 have := nDigits_pos u
 simp at h2; omega
theorem decDigits_head (u : Nat) (hu : 0 < u) : (decDigits u).head? ≠ some 48 := by
 induction u using Nat.strongRecOn with
 | _ u ih =>
  by_cases h : u < 10
  ·
   rw [decDigits_lo h]
   intro e
   simp only [List.head?_cons, Option.some.injEq] at e
   have := congrArg UInt8.toNat e
   simp at this; omega
  ·
   rw [decDigits_hi h]
   have := ih (u / 10) (by omega) (by omega)
   cases hd : decDigits (u / 10) with
   | nil => exact absurd hd (decDigits_ne _)
   | cons a r => rw [hd] at this; simpa using this
theorem dec_inv (l : List UInt8) (n : Nat) (h : decFrom 0 l = some n) (h0 : l ≠ []) (h1 : 1 < l.length → l.head? ≠ some 48) : l = decDigits n := by
 suffices H : ∀ (k : Nat) (l : List UInt8) (n : Nat), l.length = k → decFrom 0 l = some n → l ≠ [] → (1 < l.length → l.head? ≠ some 48) → l = decDigits n from H _ l n rfl h h0 h1
 intro k
 induction k with
 | zero => intro l n hk _ h0 _; exact absurd (List.eq_nil_of_length_eq_zero hk) h0
 | succ k ih =>
  intro l n hk h h0 h1
  obtain ⟨l', b, rfl⟩ : ∃ l' b, l = l' ++ [b] := ⟨l.dropLast, l.getLast h0, (List.dropLast_concat_getLast h0).symm⟩
  rw [decFrom_app] at h
  obtain ⟨m, hm, h⟩ := Option.bind_eq_some_iff.1 h
  obtain ⟨d, hd, rfl⟩ := Option.map_eq_some_iff.1 h
  obtain ⟨hd10, rfl⟩ := digitVal_inv hd
  rw [List.length_append, List.length_singleton] at hk h1
  by_cases hl : l' = []
  ·
   subst hl
   simp only [decFrom, Option.some.injEq] at hm
   subst hm
   rw [List.nil_append, Nat.zero_mul, Nat.zero_add, decDigits_lo hd10]
  ·
   have hpos : 0 < l'.length := List.length_pos_iff.2 hl
   have hh : l'.head? ≠ some 48 := by
    have := h1 (by omega)
    cases l' with
    | nil => exact absurd rfl hl
    | cons a r => simpa using this
   have e := ih l' m (by omega) hm hl (fun _ => hh)
   have hm0 : m ≠ 0 := by
    intro h'
    subst h'
    rw [e, decDigits_lo (by omega)] at hh
    exact hh rfl
   rw [decDigits_hi (u := m * 10 + d) (by omega), show (m * 10 + d) / 10 = m by omega, show (m * 10 + d) % 10 = d by omega, ← e]
theorem decFrom_ge : ∀ (l : List UInt8) (acc n : Nat), decFrom acc l = some n → acc ≤ n
 | [], acc, n, h => by simp only [decFrom, Option.some.injEq] at h; omega
 | a :: r, acc, n, h => by
  simp only [decFrom] at h
  cases ha : digitVal a with
  | none => rw [ha] at h; cases h
  | some d =>
   rw [ha] at h
   have := decFrom_ge r _ n h
   omega
theorem parseUint_dec : ∀ (l : List UInt8) (acc n : Nat), decFrom acc l = some n → n < 1000000000000000000 → parseUintM (2 ^ 64 - 1) acc l = .ok n
 | [], acc, n, h, _ => by
  simp only [decFrom, Option.some.injEq] at h
  subst h; rfl
 | a :: r, acc, n, h, hn => by
  simp only [decFrom] at h
  cases ha : digitVal a with
  | none => rw [ha] at h; cases h
  | some d =>
   rw [ha] at h
   obtain ⟨h1, h2, h3⟩ := digitVal_eq ha
   have hge := decFrom_ge r _ n h
   rw [parseUintM, if_pos ⟨h1, h2⟩, if_neg (by omega), if_neg (by omega), ← h3]
   exact parseUint_dec r _ n h hn
theorem parse_dec {n : Nat} (hn : n < 1000000000) : parseIntB 64 (decDigits n) = .ok (n : Int) := by
 have h := decFrom_dec n
 cases hl : decDigits n with
 | nil => exact absurd hl (decDigits_ne n)
 | cons c r =>
  rw [hl] at h
  have hc : ∃ d, digitVal c = some d := digit_of_decFrom (c :: r) 0 n h 0 c rfl
  obtain ⟨d, hd⟩ := hc
  obtain ⟨h1, h2, h3⟩ := digitVal_eq hd
  have hp : parseUintB 64 (c :: r) = .ok n := by
   unfold parseUintB
   rw [if_neg (by simp)]
   exact parseUint_dec _ 0 n h (by omega)
  unfold parseIntB
  simp only
  rw [if_neg (by omega), hp]
  simp only
  rw [if_neg (by omega), if_neg (by omega), if_neg (by omega)]
def numW (l : List UInt8) : Int := if l.length = 0 ∨ 9 < l.length ∨ (1 < l.length ∧ l.head? = some 48) then -1 else match decFrom 0 l with
 | some n => (n : Int)
 | none => -1
theorem numW_dec {n : Nat} (hn : n < 1000000000) : numW (decDigits n) = n := by
 have h1 := decDigits_length n
 have h2 := nDigits_pos n
 have h3 : nDigits n ≤ 9 := by
  have h := fun k => nDigits_unique k n
  rcases Nat.lt_or_ge 9 (nDigits n) with h9 | h9
  ·
   exfalso
   have key : ∀ k u, 10 ^ k ≤ u → k < nDigits u := fun k => by
    induction k with
    | zero => intro u _; have := nDigits_pos u; omega
    | succ k ih =>
     intro u hu
     have h10 : ¬ u < 10 := by
      have : 10 ^ (k + 1) = 10 * 10 ^ k := by rw [Nat.pow_succ, Nat.mul_comm]
      have : 0 < 10 ^ k := Nat.pow_pos (by omega)
      omega
     rw [nDigits_big h10]
     have : 10 ^ k ≤ u / 10 := by
      rw [Nat.le_div_iff_mul_le (by omega)]
      rw [Nat.pow_succ] at hu; exact hu
     have := ih _ this
     omega
   have low : ∀ k u, u < 10 ^ (k + 1) → nDigits u ≤ k + 1 := fun k => by
    induction k with
    | zero => intro u hu; rw [nDigits_small (by omega)]; omega
    | succ k ih =>
     intro u hu
     by_cases h10 : u < 10
     ·
      rw [nDigits_small h10]; omega
     ·
      rw [nDigits_big h10]
      have : u / 10 < 10 ^ (k + 1) := by
       rw [Nat.div_lt_iff_lt_mul (by omega)]
       rw [Nat.pow_succ] at hu; exact hu
      have := ih _ this
      omega
   have := low 8 n (by omega)
   omega
  ·
   exact h9
 unfold numW
 rw [if_neg, decFrom_dec]
 rintro (h | h | ⟨h, hh⟩)
 ·
  omega
 ·
  omega
 ·
  refine decDigits_head n ?_ hh
  rcases Nat.eq_zero_or_pos n with rfl | h0
  ·
   rw [h1, nDigits_small (by omega)] at h; omega
  ·
   exact h0
theorem numW_inv {l : List UInt8} (h : 0 ≤ numW l) : ∃ n : Nat, numW l = n ∧ l = decDigits n ∧ n < 1000000000 := by
 unfold numW at h ⊢
 by_cases hc : l.length = 0 ∨ 9 < l.length ∨ (1 < l.length ∧ l.head? = some 48)
 ·
  rw [if_pos hc] at h; omega
 ·
  rw [if_neg hc] at h ⊢
  cases hd : decFrom 0 l with
  | none => rw [hd] at h; simp at h
  | some n =>
   refine ⟨n, rfl, dec_inv l n hd (fun e => hc (.inl (by rw [e]; rfl))) (fun h1 h2 => hc (.inr (.inr ⟨h1, h2⟩))), ?_⟩
   have := decFrom_lt l 0 n hd
   have h9 : l.length ≤ 9 := by omega
   have : (0 + 1) * 10 ^ l.length ≤ 1 * 10 ^ 9 := Nat.mul_le_mul (Nat.le_refl _) (Nat.pow_le_pow_right (by omega) h9)
   omega
def parts (c : UInt8) : List UInt8 → List (List UInt8)
 | [] => [[]]
 | b :: r => if b = c then [] :: parts c r else (b :: (parts c r).headD []) :: (parts c r).tail
theorem parts_ne (c : UInt8) (s : List UInt8) : parts c s ≠ [] := by
 cases s with
 | nil => simp [parts]
 | cons b r => unfold parts; split <;> simp
theorem parts_form (c : UInt8) (s : List UInt8) : ∃ w ws, parts c s = w :: ws := by
 cases h : parts c s with
 | nil => exact absurd h (parts_ne c s)
 | cons w ws => exact ⟨w, ws, rfl⟩
theorem join_cons2 (x y : List UInt8) (r : List (List UInt8)) (sep : List UInt8) : join (x :: y :: r) sep = x ++ sep ++ join (y :: r) sep := by
 rw [join_cons, join_cons]
 simp [joinTail, List.append_assoc]
theorem join_parts (c : UInt8) : ∀ s : List UInt8, join (parts c s) [c] = s
 | [] => by simp [parts, join_one]
 | b :: r => by
  have ih := join_parts c r
  obtain ⟨w, ws, e⟩ := parts_form c r
  unfold parts
  by_cases h : b = c
  ·
   rw [if_pos h, e, join_cons2, ← e, ih, h]; rfl
  ·
   rw [if_neg h, e]
   rw [e] at ih
   show join ((b :: w) :: ws) [c] = b :: r
   rw [join_cons] at ih ⊢
   rw [← ih]; rfl
theorem parts_free (c : UInt8) : ∀ (w r : List UInt8), c ∉ w → parts c (w ++ r) = (w ++ (parts c r).headD []) :: (parts c r).tail
 | [], r, _ => by
  obtain ⟨x, xs, e⟩ := parts_form c r
  rw [List.nil_append, e]; rfl
 | b :: w, r, h => by
  have hb : b ≠ c := fun e => h (by rw [e]; exact List.mem_cons_self)
  rw [List.cons_append, parts, if_neg hb, parts_free c w r (fun hm => h (List.mem_cons_of_mem _ hm))]
  rfl
theorem parts_join (c : UInt8) : ∀ ws : List (List UInt8), ws ≠ [] → (∀ w ∈ ws, c ∉ w) → parts c (join ws [c]) = ws
 | [], h, _ => absurd rfl h
 | [w], _, h => by
  rw [join_one]
  have := parts_free c w [] (h w (by simp))
  rw [List.append_nil] at this
  rw [this]; simp [parts]
 | w :: x :: r, _, h => by
  rw [join_cons2, List.append_assoc, parts_free c w _ (h w (by simp))]
  have ih := parts_join c (x :: r) (by simp) (fun y hy => h y (List.mem_cons_of_mem _ hy))
  show (w ++ (parts c (c :: join (x :: r) [c])).headD []) :: (parts c (c :: join (x :: r) [c])).tail = _
  rw [parts, if_pos rfl, ih]
  simp
theorem dec_free (n : Nat) : (44 : UInt8) ∉ decDigits n := by
 intro h
 obtain ⟨k, hk⟩ := List.mem_iff_getElem?.1 h
 obtain ⟨d, hd⟩ := digit_of_decFrom _ 0 n (decFrom_dec n) k _ hk
 have := (digitVal_eq hd).1
 simp at this
theorem index_byte (c : UInt8) : ∀ s : List UInt8, index s [c] = (if c ∈ s then ((s.idxOf c : Nat) : Int) else -1)
 | [] => by simp [index]
 | b :: r => by
  have ih := index_byte c r
  unfold index
  by_cases h : b = c
  ·
   subst h
   have e : List.isPrefixOf [b] (b :: r) = true := by simp [List.isPrefixOf]
   rw [if_pos e, if_pos List.mem_cons_self]
   simp
  ·
   have e : ¬ List.isPrefixOf [c] (b :: r) = true := by
    simp [List.isPrefixOf]; exact fun e => h e.symm
   rw [if_neg e, ih]
   by_cases hm : c ∈ r
   ·
    rw [if_pos hm, if_pos (List.mem_cons_of_mem _ hm), if_neg (by simp), List.idxOf_cons]
    have : (b == c) = false := beq_eq_false_iff_ne.mpr h
    rw [this]
    simp
   ·
    have hn : c ∉ b :: r := fun h' => by
     rcases List.mem_cons.1 h' with h' | h'
     ·
      exact h h'.symm
     ·
      exact hm h'
    rw [if_neg hm, if_neg hn]
    simp
theorem splitK_parts (c : UInt8) : ∀ (k : Nat) (s : List UInt8), s.count c = k → splitK [c] 0 k s = parts c s := by
 intro k
 induction k with
 | zero =>
  intro s hs
  have hm : c ∉ s := fun h => by have := List.count_pos_iff.2 h; omega
  have := parts_free c s [] hm
  rw [List.append_nil] at this
  rw [this]
  simp [parts, splitK]
 | succ k ih =>
  intro s hs
  have hm : c ∈ s := List.count_pos_iff.1 (by omega)
  obtain ⟨a, b, e, ha⟩ := List.eq_append_cons_of_mem hm
  have hi : index s [c] = (a.length : Int) := by
   rw [index_byte, if_pos hm, e, List.idxOf_append, if_neg ha, List.idxOf_cons_self]
   simp
  have hcb : b.count c = k := by
   rw [e, List.count_append, List.count_eq_zero.2 ha, List.count_cons_self] at hs
   omega
  have h1 : s.take a.length = a := by rw [e]; simp
  have h2 : s.drop (a.length + 1) = b := by rw [e]; simp
  rw [splitK, hi]
  have hne : ¬ (((a.length : Int)) == -1) = true := by simp
  rw [if_neg hne, Int.toNat_natCast, Nat.add_zero, List.length_singleton, h1, h2, ih b hcb, e, parts_free c a _ ha, parts, if_pos rfl]
  simp
theorem split_parts (c : UInt8) (s : List UInt8) : split s [c] = parts c s := by
 unfold split
 rw [count_one]
 exact splitK_parts c _ s rfl
end Go.Proofs.YtmadpicanmjhhaaGreatDoor.H
namespace Go.Proofs.YtmadpicanmjhhaaGreatDoor.H
open Go.RowKit Go.Proofs.YtmadpicanmjhhaaGreatDoorW.PrintWords Go.Proofs.YtmadpicanmjhhaaGreatDoorW.PrintLast Go.Proofs.YtmadpicanmjhhaaGreatDoorW.PrintMore
attribute [local go_sem] max2_int min2_int max_two min_two max_three min_three max_four min_four   -- for this text's walks alone
set_option linter.unusedVariables false
set_option linter.unusedSimpArgs false
theorem tab_below {P : Program} {w W : World} {name : String} {k : IntKind} {zs : List Int} (h : Lib.TabIs P w name k zs) (hb : Below w.heap.size w W) : Lib.TabIs P W name k zs := by
 unfold Lib.TabIs World.var? at *
 cases hg : P.globalNamed name with
 | none => simp [hg] at h
 | some g =>
  simp only [hg, Option.bind_some] at h ⊢
  have hlt : g < w.heap.size := by
   rcases Nat.lt_or_ge g w.heap.size with h' | h'
   ·
    exact h'
   ·
    rw [Array.getElem?_eq_none h'] at h; simp at h
  rw [hb.block g hlt]
  exact h
theorem impl_decimal.calls (n : Int) (h0 : -9223372036854775808 ≤ n) (h1 : n ≤ 9223372036854775807) (w : World) (htab : Lib.TabIs Tryz.prog w "internal/strconv.uint64pow10" .u64 Lib.pow10Tab) :
  Calls Tryz.prog 77 #[.int .i64 n] w fun e w' => e = .returned (.string ⟨(Lib.itoa n).toArray⟩) ∧ Below w.heap.size w w' := by
 have HF : Calls Tryz.prog 98 #[.int .i64 n, .int .i64 10] w fun e w' => e = .returned (.string ⟨(Lib.itoa n).toArray⟩) ∧ Below w.heap.size w w' :=
  (Tryz.strconv_FormatInt_10 n h0 h1 w htab).mono fun e w' ⟨he, k, os, hw⟩ => ⟨he, by rw [hw]; exact Lib.below_grow _ _ (Nat.le_refl _) _ _⟩
 clear htab h0 h1
 generalize Lib.itoa n = s at HF ⊢
 go_enter Tryz.func77, Tryz.ntmps77
 go_wp2_with fail
 go_at_call 98
 refine HF.mono ?_
 rintro e w' ⟨rfl, hb⟩
 go_wp2_with fail
 go_ret
 exact ⟨rfl, hb⟩
end Go.Proofs.YtmadpicanmjhhaaGreatDoor.H
namespace Go.Proofs.YtmadpicanmjhhaaGreatDoor.H
open Go.RowKit Go.Proofs.YtmadpicanmjhhaaGreatDoorW.PrintWords Go.Proofs.YtmadpicanmjhhaaGreatDoorW.PrintLast Go.Proofs.YtmadpicanmjhhaaGreatDoorW.PrintMore
attribute [local go_sem] max2_int min2_int max_two min_two max_three min_three max_four min_four   -- for this text's walks alone
set_option linter.unusedVariables false
set_option linter.unusedSimpArgs false
attribute [local go_sem] Oper.semAt_some
def polyT (f : List Int) : List UInt8 := if f.length = 0 then [48] else Lib.join (f.reverse.map Lib.itoa) [44]
abbrev I64 := { c : Int // -9223372036854775808 ≤ c ∧ c ≤ 9223372036854775807 }
def txW (l : List (Int × I64)) : List ByteArray := l.map fun x => ⟨(Lib.itoa x.2.1).toArray⟩
theorem txW_snoc (l : List (Int × I64)) (x : Int × I64) : txW (l ++ [x]) = txW l ++ [⟨(Lib.itoa x.2.1).toArray⟩] := by simp [txW]
theorem txW_len (l : List (Int × I64)) : (txW l).length = l.length := by simp [txW]
theorem txW_all (f : List Int) (g : Nat → I64) (hg : ∀ j, j < f.length → (g j).1 = f.getD j 0) : (txW (bwUpto g f.length f.length)).map (·.data.toList) = f.reverse.map Lib.itoa := by
 refine List.ext_getElem? fun j => ?_
 rw [List.getElem?_map]
 by_cases hj : j < f.length
 ·
  unfold txW bwUpto
  rw [List.getElem?_map, List.getElem?_map, List.getElem?_range hj, List.getElem?_map, List.getElem?_reverse hj, List.getElem?_eq_getElem (show f.length - 1 - j < f.length by omega)]
  show some (Lib.itoa (g (f.length - 1 - j)).1) = some (Lib.itoa _)
  rw [hg _ (by omega), List.getD_eq_getElem?_getD, List.getElem?_eq_getElem (show f.length - 1 - j < f.length by omega)]
  rfl
 ·
  rw [List.getElem?_eq_none (by rw [txW_len, bwUpto_length]; omega), List.getElem?_eq_none (by rw [List.length_map, List.length_reverse]; omega)]
  rfl
theorem join_le : ∀ ws : List (List UInt8), (∀ w ∈ ws, w.length ≤ 21) → (Lib.join ws [44]).length ≤ 22 * ws.length
 | [], _ => by rw [Lib.join_nil]; simp
 | [w], h => by rw [Lib.join_one]; have := h w (by simp); simp; omega
 | w :: x :: r, h => by
  have ih := join_le (x :: r) (fun y hy => h y (List.mem_cons_of_mem _ hy))
  have hw := h w (by simp)
  rw [join_cons2, List.length_append, List.length_append]
  simp only [List.length_cons, List.length_nil] at ih ⊢
  omega
set_option maxRecDepth 100000 in
set_option maxHeartbeats 8000000 in
theorem impl_polyText.calls (A1 : Option Addr) (c1 : Nat) (l1 : List Int) (w : World) (hr1 : Kd.C (Kd.int .i64) w A1 l1.length l1) (hc1 : l1.length ≤ c1) (hel : ∀ x ∈ l1, -9223372036854775808 ≤ x ∧ x ≤ 9223372036854775807) (hlen : l1.length ≤ 1000) (htab : Lib.TabIs Tryz.prog w "internal/strconv.uint64pow10" .u64 Lib.pow10Tab) :
  Calls Tryz.prog 49 #[.slice A1 l1.length c1] w fun e w' => e = .returned (.string ⟨(polyT l1).toArray⟩) ∧ Below w.heap.size w w' := by
 have hgd : ∀ j, -9223372036854775808 ≤ l1.getD j 0 ∧ l1.getD j 0 ≤ 9223372036854775807 := fun j => by
  rw [List.getD_eq_getElem?_getD]
  cases h : l1[j]? with
  | none => exact ⟨by simp, by simp⟩
  | some x => exact hel x (List.mem_of_getElem? h)
 by_cases h0 : l1.length = 0
 ·
  have d0 : ((l1.length : Int) == 0) = true := by rw [h0]; rfl
  have e0 : polyT l1 = [48] := if_pos h0
  have HB := as0 (Below.refl w.heap.size w)
  rw [e0]
  clear e0 hgd hel hlen hr1 hc1 htab
  rw [h0]
  clear h0 d0
  go_enter Tryz.func49, Tryz.ntmps49
  go_wp2
  go_ret
  exact ⟨rfl, HB.out⟩
 ·
  have d0 : ((l1.length : Int) == 0) = false := beq_eq_false_iff_ne.mpr (by omega)
  have d0' : (l1.length == 0) = false := beq_eq_false_iff_ne.mpr h0
  have hpT : polyT l1 = Lib.join (l1.reverse.map Lib.itoa) [44] := if_neg h0
  have HEL := as0 hel
  refine (callsIn_wide (n := 3)).1 ?_
  refine callsIn_of_wp_marks Tryz.func49 rfl trivial ?_ rfl
  simp only [Tryz.ntmps49, List.size_toArray, List.length_cons, List.length_nil, Nat.reduceAdd, Nat.reduceSub, Array.replicate_succ, Array.replicate_zero, List.push_toArray, List.append_toArray, List.nil_append, List.cons_append]
  gi_wp2_with (refine ⟨trivial, ?_⟩; gi_at_call 72; refine (backward_in _ _ trivial rfl _ _ _ _).mono ?_; rintro e w' ⟨rfl, rfl⟩)
  have bO := (Boxed.new w 63 (.slice none 0 0)).alloc (.cells #[.slice A1 l1.length c1] 24)
  have bS := Boxed.new (w.alloc (.cells #[.slice none 0 0] 63)) 24 (.slice A1 l1.length c1)
  simp only [World.size_alloc] at bO bS
  have hB0 : Below w.heap.size w ((w.alloc (.cells #[.slice none 0 0] 63)).alloc (.cells #[.slice A1 l1.length c1] 24)) := by
   repeat (first | exact Below.refl _ _ | apply below_alloc)
  have hsz : ((w.alloc (.cells #[.slice none 0 0] 63)).alloc (.cells #[.slice A1 l1.length c1] 24)).heap.size = w.heap.size + 2 := by simp
  obtain ⟨W0, hW0⟩ : ∃ W0, ((w.alloc (.cells #[.slice none 0 0] 63)).alloc (.cells #[.slice A1 l1.length c1] 24)) = W0 := ⟨_, rfl⟩
  rw [hW0] at bO bS hB0 hsz ⊢
  clear hW0
  have hC : ∀ W', Below w.heap.size W0 W' → ∀ j, j < l1.length → ∃ ad, A1 = some ad ∧ W'.cell? (ad.add j) = some (.int .i64 ((⟨l1.getD j 0, hgd j⟩ : I64).1)) := fun W' hW' j hj => by
   obtain ⟨ad, e, h⟩ := Kd.at_int (Kd.C_below hr1 (hB0.trans hW')) (j : Int) (by omega) (by omega)
   exact ⟨ad, e, by simpa [rd] using h⟩
  refine wpIn_rangeFunc_ownG rfl (by omega) (gf := 97) (lb := #[.pointer (some ⟨w.heap.size + 1, 0, none⟩)]) rfl trivial (enters_of Tryz.func97 (by kernel_rfl) rfl)
   (backward_stops (α := I64) Subtype.val (fun j => ⟨l1.getD j 0, hgd j⟩) Fence.wide 2 trivial rfl (by omega) (w.heap.size + 1) w.heap.size l1.length c1 A1 (by omega) W0 (by omega) (by omega) bS hC) KpB.trans (KpB.put (by omega) (by omega)) (Below.refl _ _) (fun _ => rfl)
   (fun pre W => (W0.heap.size ≤ W.heap.size ∧ (∃ v, Boxed W w.heap.size 63 v ∧ W.ownsRow W0.heap.size 9 1 v (txW pre).length (encs Value.string (txW pre)) ∧ True)) ∧ Below w.heap.size w W)
   (fun _ _ _ => False)
   (OwnFrom.and (OwnFrom.and (Own.from (fun s A B row hs hg hr => Nat.le_trans hs hg.size) _) (Own.from (holdsRow_own _ _ _ _ _ (fun pre => (txW pre).length) (fun pre => encs Value.string (txW pre)) (fun _ _ => True)) _)) (ownFrom_below (Nat.le_refl _) (by omega)))
   (fun _ _ _ _ _ hs _ _ => hs)
   ⟨⟨Nat.le_refl _, _, bO, by simp [txW, encs, World.ownsRow], trivial⟩, hB0⟩
   (fun x => { tmps := #[.slice A1 l1.length c1, undef, .string ⟨#[]⟩, .pointer (some ⟨w.heap.size, 0, none⟩), undef, .int .i64 x.2.1, .slice A1 l1.length c1, .int .i64 l1.length, .bool false, .slice A1 l1.length c1, .func (.func 97) #[] #[.pointer (some ⟨w.heap.size + 1, 0, none⟩)], .int .i64 x.1, .int .i64 x.2.1, undef, undef, undef, undef, undef, undef, undef], defers := [] }) ?assign ?body ?done ?stop
  case assign =>
   intro l x W K hK
   gi_wp2
   exact hK
  case body =>
   rintro l pre x W ⟨⟨hsW, v, hO, hrow, _⟩, hB⟩ hlt
   have HR : Kd.R Kd.string 9 W W0.heap.size (fun _ => True) v (txW pre) := Kd.R_of_own hrow (fun _ _ => trivial)
   obtain ⟨A, c, rfl⟩ := Kd.R_slice HR
   have cO := hO.cell
   have fO := hO.frozen
   have hmx : Tryz.prog.follows .mixedOrders = true := by kernel_rfl
   have HS : ∀ W', Below W.heap.size W W' → W'.cell? ⟨w.heap.size, 0, none⟩ = some (.slice A (txW pre).length c) := fun W' h => Boxed.cell ((h.block _ hO.lt).trans hO)
   have hbD : Below W.heap.size W W.drew := (Below.refl _ _).drew
   have hD := fun W' (hW : Below W.heap.size W W') => impl_decimal.calls x.2.1 x.2.2.1 x.2.2.2 W' (tab_below htab (hB.trans (hW.mono hB.size)))
   gi_wp2
   refine startIn_ (n := 6) (S := fun w' => w'.cell? ⟨w.heap.size, 0, none⟩ = some (.slice A (txW pre).length c)) (ds := [5]) #[false, false, false, false, false, false] hmx (by kernel_rfl) (fun ⟨_, _, h⟩ => h) rfl rfl (HS _ hbD) (fun hHeld => ?_)
   refine take_ (i := 0) (N := some 13) (v := ?_) (a' := ?_) #[true, false, false, false, false, false] rfl rfl (by kernel_rfl) (fun _ _ _ h => h) (Or.inl ⟨by rfl, ?_⟩) hHeld ?_ ?_
   rotate_left
   ·
    rintro w' s0
    go_simp
    with_reducible rfl
   rotate_left
   ·
    simp only [Act.put, List.setIfInBounds_toArray, List.set_cons_zero, List.set_cons_succ, i64_w, i32_w]
    rfl
   refine pure_ (i := 1) (N := some 14) (v := ?_) (a' := ?_) #[true, true, false, false, false, false] rfl rfl (by kernel_rfl) (fun _ _ _ h => h) (Or.inl ⟨by rfl, ?_⟩) ?_ ?_
   rotate_left
   ·
    intro w'
    go_simp
    with_reducible rfl
   rotate_left
   ·
    simp only [Act.put, List.setIfInBounds_toArray, List.set_cons_zero, List.set_cons_succ, i64_w, i32_w]
    rfl
   refine one_ (i := 2) (N := some 15) #[true, true, true, false, false, false] rfl rfl (by kernel_rfl) (by decide) (fun K hK => ?_)
   refine goes_ Tryz.func77 (by kernel_rfl) rfl #[.int .i64 x.2.1] (by rfl) rfl rfl (by (try simp only [List.map_toArray, List.map_cons, List.map_nil]); first | done | rfl) ?_
   refine (hD _ hbD).mono ?_
   rintro e w3 ⟨rfl, hb3⟩
   have hb3' := below_step hbD hb3
   refine ⟨_, rfl, ?_⟩
   refine hK.out _ _ (HS _ hb3') (fun hHeld => ?_)
   clear hK K
   refine nm_ (some 15) ?_
   have HR3 : Kd.R Kd.string 9 w3 W0.heap.size (fun _ => True) (.slice A (txW pre).length c) (txW pre) := Kd.R_below HR hb3'
   refine one_ (i := 3) (N := some 16) #[true, true, true, true, false, false] rfl rfl (by kernel_rfl) (by decide) (fun K hK => ?_)
   refine value_ (w1 := ?_) (v := ?_) (by rfl) rfl ?_ ?_
   rotate_left 2
   ·
    go_simp
    constructor
    ·
     rfl
    ·
     rfl
   refine hK.out _ _ (pw_cell_below (below_alloc (Below.refl _ _) _) hHeld) (fun hHeld => ?_)
   clear hK K
   refine nm_ (some 16) ?_
   refine one_ (i := 4) (N := some 17) #[true, true, true, true, true, false] rfl rfl (by kernel_rfl) (by decide) (fun K hK => ?_)
   refine Kd.R_append_step Kd.string (w0 := w3) W0.heap.size (by rfl) (.tmp 13) (.tmp 16) 63 9 (.string ⟨#[]⟩) 16 rfl Tryz.underlying63 info9 rfl (by decide) (by omega) (.slice A (txW pre).length c) (txW pre) (⟨(Lib.itoa x.2.1).toArray⟩ : ByteArray) [.string ⟨(Lib.itoa x.2.1).toArray⟩] (fun _ => True) (fun _ => False) rfl rfl ?aP (fun _ hk => hk.elim) ?aF ?aO ?aB ?aS ?aL ?_
   case aP => exact rfl
   case aF => exact fun _ _ => trivial
   case aO => exact HR3
   case aB => exact Below.refl _ _
   case aS => exact Nat.le_trans hsW hb3'.size
   case aL => rw [txW_len]; omega
   intro v17 w5 ho hb5 hg hat
   rw [← txW_snoc] at ho
   obtain ⟨A5, c5, rfl⟩ := Kd.R_slice ho
   have hO3 : Boxed w3 w.heap.size 63 (.slice A (txW pre).length c) := (hb3'.block _ hO.lt).trans hO
   have hO5 : Boxed w5 w.heap.size 63 (.slice A (txW pre).length c) := (hb5.block _ (by omega)).trans hO3
   have cO5 := hO5.cell
   have fO5 := hO5.frozen
   refine hK.out _ _ cO5 (fun hHeld => ?_)
   clear hK K
   refine nm_ (some 17) ?_
   refine last_ (i := 5) (N := none) #[true, true, true, true, true, true] rfl rfl (by kernel_rfl) (by decide) (fun K hK => ?_)
   refine skip_ (w1 := w5.setCell ⟨w.heap.size, 0, none⟩ (.slice A5 (txW (pre ++ [x])).length c5)) (by rfl) rfl ?_ ?_
   ·
    first | (go_simp; done) | (go_simp; rfl)
   refine hK.out _ _ ?_
   clear hK K
   refine done_ (by kernel_rfl) ?_
   have hown := Kd.own_of_R ho
   have hrowc : ∀ (j : Nat) (o : Obj), (.slice A (txW pre).length c : Value).ownBlock = some j → w3.heap[j]? = some o → o.isCells = true := fun j o hj ho' => by
    obtain ⟨cells, hc'⟩ := Kd.R_typed HR3 j hj
    rw [hc'] at ho'
    cases ho'
    rfl
   have hKO : KeepsOthers W w5 := (keepsOthers_below hb3').trans (KeepsOthers.of_grownBy hg hrowc)
   have hbW : Below w.heap.size W w5 := (hb3'.mono hB.size).trans (hb5.mono (by omega))
   have hW1 := hO.lt
   refine ⟨(hKO.trans (KeepsOthers.setCell _ _ _)).from _, ⟨hbW.setCell (p := ⟨w.heap.size, 0, none⟩) (Nat.le_refl _) _, (Below.heap_setCell _ _ _ _ (by simp)).trans ((hb5.block _ (by omega)).trans (hb3'.block _ (by omega)))⟩, ⟨⟨Nat.le_trans (Nat.le_trans hsW hb3'.size) (Nat.le_trans hb5.size (KeepsOthers.setCell _ _ _).size), _, Boxed.set _ hO5, ?_, trivial⟩, (hB.trans hbW).setCell (p := ⟨w.heap.size, 0, none⟩) (Nat.le_refl _) _⟩⟩
   exact hown.kept (grownBy_setCell' w5 _ _) (.inr (hO5.not_row (by decide) hown).symm)
  case done =>
   rintro D ys W hD rfl ⟨⟨hsW, v, hO, hrow, _⟩, hB⟩ hK
   have hx := txW_all l1 (fun j => ⟨l1.getD j 0, hgd j⟩) (fun _ _ => rfl)
   have hxl : (txW (bwUpto (fun j => (⟨l1.getD j 0, hgd j⟩ : I64)) l1.length l1.length)).length = l1.length := by rw [txW_len, bwUpto_length]
   generalize txW (bwUpto (fun j => (⟨l1.getD j 0, hgd j⟩ : I64)) l1.length l1.length) = xs at hx hxl hrow
   have HR : Kd.R Kd.string 9 W W0.heap.size (fun _ => True) v xs := Kd.R_of_own hrow (fun _ _ => trivial)
   obtain ⟨q, cq, rfl, hbq, hql, _⟩ := Kd.R_form HR (by omega)
   have cO := hO.cell
   have hrd := Kd.R_reads' HR
   have hcells : ∀ (j : Nat) (x : ByteArray), xs[j]? = some x → W.cell? ⟨q, 0 + j, none⟩ = some (.string x) := fun j x hj => by
    have hjl : j < xs.length := by
     rcases Nat.lt_or_ge j xs.length with h | h
     ·
      exact h
     ·
      rw [List.getElem?_eq_none h] at hj; cases hj
    obtain ⟨ad, e, hc⟩ := Kd.at_string hrd.2.2 (j : Int) (by omega) (by omega)
    injection e with e
    subst e
    rw [add_at, Int.toNat_natCast] at hc
    rw [hc]
    unfold rdOf
    rw [Int.toNat_natCast, List.getD_eq_getElem?_getD, hj]
    rfl
   have HJ := Tryz.strings_Join q 0 cq xs ⟨#[44]⟩ W hcells hql (by omega) hrd.2.1 (by
    rw [hx]
    have := join_le (l1.reverse.map Lib.itoa) (fun y hy => by
     obtain ⟨c, hc, rfl⟩ := List.mem_map.1 hy
     have := HEL.out c (List.mem_reverse.1 hc)
     exact Lib.itoa_length_le c this.1 this.2)
    rw [List.length_map, List.length_reverse] at this
    exact Nat.le_trans this (by omega))
   rw [hx] at HJ
   have HJ2 : CallsIn Fence.wide 2 Tryz.prog 78 #[.slice (some ⟨q, 0, none⟩) l1.length cq, .string ⟨#[44]⟩] W fun e w' => e = .returned (.string ⟨(polyT l1).toArray⟩) ∧ Below W.heap.size W w' := by
    rw [hpT, ← hxl]
    exact (callsIn_wide (n := 2)).2 HJ
   rw [hxl] at cO
   clear HJ hcells hrd hx hrow HR hxl hpT
   gi_wp2_with fail
   refine ⟨trivial, ?_⟩
   refine HJ2.mono ?_
   rintro e w5 ⟨rfl, hb5⟩
   have hDl : D < W.heap.size := by
    rcases Nat.lt_or_ge D W.heap.size with h | h
    ·
     exact h
    ·
     have := hK; simp_all
   have hK5 := (hb5.block D hDl).trans hK
   gi_wp2
   refine ⟨by simp, .inl ⟨_, _, rfl, run_takeDeferred hK5, ?_⟩⟩
   exact ⟨_, results_tmp rfl _ _ _, rfl, (hB.trans (hb5.mono hB.size)).trans (belowK_b (w := w) (Nat.le_refl _) w5 D _ _ (by omega) hK5 rfl rfl)⟩
  case stop =>
   rintro D c pre W _ _ h _
   exact h.elim
end Go.Proofs.YtmadpicanmjhhaaGreatDoor.H
namespace Go.Proofs.YtmadpicanmjhhaaGreatDoor.H
open Go.RowKit Go.Proofs.YtmadpicanmjhhaaGreatDoorW.PrintWords Go.Proofs.YtmadpicanmjhhaaGreatDoorW.PrintLast Go.Proofs.YtmadpicanmjhhaaGreatDoorW.PrintMore
attribute [local go_sem] max2_int min2_int max_two min_two max_three min_three max_four min_four   -- for this text's walks alone
set_option linter.unusedVariables false
set_option linter.unusedSimpArgs false
noncomputable def ptA (p : Int) (l : List Int) : List UInt8 × Int := if codeL p true [l] = 0 then (polyT l, 0) else ([], codeL p true [l])
set_option maxRecDepth 100000 in
set_option maxHeartbeats 4000000 in
theorem impl_PolyText.calls (p : Int) (A1 : Option Addr) (c1 : Nat) (l1 : List Int) (s : List UInt8) (er : Int) (w : World) (hr1 : Kd.C (Kd.int .i64) w A1 l1.length l1) (hc1 : l1.length ≤ c1) (h : ptA p l1 = (s, er)) (htab : Lib.TabIs Tryz.prog w "internal/strconv.uint64pow10" .u64 Lib.pow10Tab) :
  Calls Tryz.prog 17 #[.int .i64 p, .slice A1 l1.length c1] w fun e w' => e = .returned (.tuple #[.string ⟨s.toArray⟩, .int .i64 er]) ∧ Below w.heap.size w w' := by
 have hb0 : Below w.heap.size w (w.alloc (.cells #[.slice A1 l1.length c1] 24)) := (Below.refl _ w).alloc (Nat.le_refl _) _
 have hcell : (w.alloc (.cells #[.slice A1 l1.length c1] 24)).cell? ⟨w.heap.size, 0, none⟩ = some (.slice A1 l1.length c1) := by simp
 obtain ⟨K, hK⟩ := impl_code1 p true l1
 have HPC := impl_polyCode_1.calls K p true A1 c1 l1 _ (w.alloc (.cells #[.slice A1 l1.length c1] 24)) (g := 47) (lb := #[]) (P := w.heap.size) (Kd.C_below hr1 hb0) hc1 (hK K (Nat.le_refl _)) (enters_of Tryz.func47 (by kernel_rfl) rfl) (always_gives _) hcell
 have HB0 := as0 hb0
 clear hcell hK hb0
 unfold ptA at h
 by_cases hc : codeL p true [l1] = 0
 ·
  rw [if_pos hc] at h
  rw [hc] at HPC
  injection h with h1 h2
  subst h1 h2
  obtain ⟨hp, _, hq⟩ := codeL_0 hc
  have hpo := hq l1 (by simp)
  have hpo2 := hpo.len
  have hin := hpo.el
  have hp2 := hp.2.1
  have HPT : ∀ W, Below w.heap.size w W → Calls Tryz.prog 49 #[.slice A1 l1.length c1] W fun e w' => e = .returned (.string ⟨(polyT l1).toArray⟩) ∧ Below W.heap.size W w' := fun W hW =>
   impl_polyText.calls A1 c1 l1 W (Kd.C_below hr1 hW) hc1 (fun x hx => by have := hin x hx; omega) (by omega) (tab_below htab hW)
  clear hr1 hc1 htab hc hp hq hpo hpo2 hin hp2
  generalize l1.length = n at HPC HPT HB0 ⊢
  generalize polyT l1 = s at HPT ⊢
  go_enter Tryz.func17, Tryz.ntmps17
  go_wp2_with fail
  go_at_call 34
  refine HPC.mono ?_
  rintro e w' ⟨rfl, hb⟩
  have HB := as0 (HB0.out.trans (hb.mono (by simp)))
  clear hb HPC
  go_wp2_with fail
  go_at_call 49
  refine (HPT _ HB.out).mono ?_
  rintro e w5 ⟨rfl, b5⟩
  have HB5 := as0 (below_step HB.out b5)
  clear b5 HPT
  go_wp2_with fail
  go_ret2
  exact ⟨rfl, HB5.out⟩
 ·
  rw [if_neg hc] at h
  injection h with h1 h2
  subst h1
  generalize codeL p true [l1] = cd at HPC hc h2
  subst h2
  have d0 : (cd == 0) = false := beq_eq_false_iff_ne.mpr hc
  have d1 : (cd != 0) = true := bne_iff_ne.mpr hc
  clear hr1 hc1 htab hc
  generalize l1.length = n at HPC HB0 ⊢
  go_enter Tryz.func17, Tryz.ntmps17
  go_wp2_with fail
  go_at_call 34
  refine HPC.mono ?_
  rintro e w' ⟨rfl, hb⟩
  have HB := as0 (HB0.out.trans (hb.mono (by simp)))
  clear hb HPC
  go_wp2_with fail
  go_ret2
  exact ⟨rfl, HB.out⟩
def spec_l01Dec.f : Nat → Int → Option (ByteArray)
 | 0, _ => none
 | k + 1, a0 => if a0 < 0 then ((spec_l01Dec.f k (wrap64 (-a0))).bind fun t674 => (if 1 + t674.size ≤ 9223372036854775807 then (some ((⟨#[45]⟩ : ByteArray) ++ t674)) else (none))) else (if a0 < 10 then (some (strOfNums (([(wrap64 (48 + a0)) % 256] : List Int)))) else ((spec_l01Dec.f k (wrap64 (Int.tdiv a0 10))).bind fun t678 => ((some (([(wrap64 (48 + (Int.tmod a0 10))) % 256] : List Int) : List Int)).bind fun y679 => (if t678.size + (strOfNums y679).size ≤ 9223372036854775807 then (some (t678 ++ (strOfNums y679))) else (none)))))
def spec_l01Dec.T5 : Bool × List (List Nat × List Nat) := (true, [([], []), ([0], [0]), ([1], [1]), ([], []), ([3], [3]), ([4], [4]), ([5], [5]), ([6], [6]), ([7], [7]), ([2, 8], [2, 8]), ([9, 2, 0, 1, 2, 3, 4, 5, 6, 7, 8, 9], [9])])
def spec_l01Dec.B5 : List Nat := [0, 1, 3, 0, 8, 24, 56, 120, 248, 511, 1023]
theorem spec_l01Dec.tab5 : rtab .any (opsOf Tryz.f79 5) = spec_l01Dec.T5 := by kernel_rfl
theorem spec_l01Dec.bits5 : waitsOk spec_l01Dec.T5.2 spec_l01Dec.B5 = true := by kernel_rfl
set_option maxHeartbeats 8000000 in
set_option maxRecDepth 100000 in
theorem spec_l01Dec.calls (k : Nat) : ∀ (a0 : Int) (r : ByteArray) (w : World) (h : spec_l01Dec.f k a0 = some r),
  Calls Tryz.prog 79 #[.int .i64 a0] w fun e w' => e = .returned (.string r) ∧ Below w.heap.size w w' := by
 induction k using Nat.strongRecOn with
 | _ k ih =>
 intro a0 r w h
 cases k with
 | zero => exact absurd h (by simp [spec_l01Dec.f])
 | succ k =>
 simp only [spec_l01Dec.f] at h
 have HB := as0 (Below.refl w.heap.size w)
 have H : (if a0 < 0 then ((spec_l01Dec.f k (wrap64 (-a0))).bind fun t674 => (if 1 + t674.size ≤ 9223372036854775807 then (some ((⟨#[45]⟩ : ByteArray) ++ t674)) else (none))) else (if a0 < 10 then (some (strOfNums (([(wrap64 (48 + a0)) % 256] : List Int)))) else ((spec_l01Dec.f k (wrap64 (Int.tdiv a0 10))).bind fun t678 => ((some (([(wrap64 (48 + (Int.tmod a0 10))) % 256] : List Int) : List Int)).bind fun y679 => (if t678.size + (strOfNums y679).size ≤ 9223372036854775807 then (some (t678 ++ (strOfNums y679))) else (none)))))) = some r := h
 clear h
 by_cases c2 : a0 < 0
 ·
  rw [if_pos c2] at H
  have c2b0 : decide (a0 < 0) = true := decide_eq_true c2
  clear c2
  replace H := Option.bind_eq_some_iff.mp H
  obtain ⟨t674, A30, H⟩ := H
  have A3 := as0 A30
  clear A30
  by_cases c4 : 1 + t674.size ≤ 9223372036854775807
  ·
   rw [if_pos c4] at H
   have c4b0 := eq_true c4
   have c4b1 : decide (1 + t674.size ≤ 9223372036854775807) = true := decide_eq_true c4
   try have c4b2 : (9223372036854775807 < 1 + t674.size) = False := eq_false (Nat.not_lt.2 c4)
   obtain rfl := Option.some.inj H
   go_enter Tryz.func79, Tryz.ntmps79
   go_wp2_with (first | ((with_reducible refine gate_callee (f := 79) rfl ?_); refine goesM_ (some 7) rfl rfl Tryz.func79 #[.int .i64 (wrap64 (-a0))] rfl ?_; (with_reducible refine (ih k (by omega) (wrap64 (-a0)) t674 _ A3.out).mono ?_); rintro e w5 ⟨rfl, hb⟩; refine ⟨_, rfl, ?_⟩; have n0_ := as0 (below_step (bs HB) hb); clear HB; have HB := n0_; clear n0_; (try clear hb); (try clear hb2); (try clear hk); (try clear hi)))
   go_ret
   exact ⟨er_, bs HB⟩
  ·
   rw [if_neg c4] at H
   exact absurd H (by simp)
 ·
  rw [if_neg c2] at H
  have c2b0 : decide (a0 < 0) = false := decide_eq_false c2
  clear c2
  by_cases c6 : a0 < 10
  ·
   rw [if_pos c6] at H
   have c6b0 : decide (a0 < 10) = true := decide_eq_true c6
   clear c6
   obtain ⟨y675, hy675⟩ : ∃ y_ : List Int, y_ = (([(wrap64 (48 + a0)) % 256] : List Int)) := ⟨_, rfl⟩
   replace H : (some (strOfNums y675)) = some r := by first | (rw [hy675]; with_reducible exact H) | (have H2_ := (Option.bind_some _ _).symm.trans H; rw [hy675]; with_reducible exact H2_) | (have H2_ := (Option.bind_some _ _).symm.trans H; with_reducible exact H2_) | with_reducible exact H | (rw [hy675]; exact H) | exact H
   have Ny675 := as0 hy675
   clear hy675
   obtain rfl := Option.some.inj H
   go_enter Tryz.func79, Tryz.ntmps79
   go_wp2_with (first | ((with_reducible refine gate_dst (N := 14) rfl ?_); refine Kd.R_lit (Kd.int .u8) _ 5 ?hg (N := 14) ?hd (xs := ([(wrap64 (48 + a0)) % 256] : List Int)) (inner := [.int .u8 ((wrap64 (48 + a0)) % 256)]) (ok := fun _ => True) (okp := fun _ => True) ?hr ?hp (fun _ hk => hk) trivial (Below.refl _ _) (Nat.le_refl _) (by simp) ?_; (case hd => rfl); (case hg => rfl); (case hr => first | (go_simp; done) | (go_simp; rfl)); (case hp => exact (Reps.one (show Kd.M (Kd.int .u8) _ _ _ ((wrap64 (48 + a0)) % 256) [.int .u8 ((wrap64 (48 + a0)) % 256)] from rfl) (Reps.none _ _))); intro v676 w7 ho8 hb hg_ hnew_; clear hg_ hnew_; (first | rw [← Ny675.out] at ho8 | (simp only [Int.reduceToNat] at ho8; rw [← Ny675.out] at ho8)); have n0_ := as0 (Kd.R_lower ho8 (below_size (bs HB))); have n1_ := as0 (below_step (bs HB) hb); clear HB; have HO677 := n0_; have HB := n1_; clear n0_ n1_; clear hb ho8; have hcv9 := own_string (P := Tryz.prog) Tryz.underlying22 Tryz.underlying5 Tryz.underlying9 (Kd.own_of_R HO677.out)))
   go_ret
   exact ⟨er_, bs HB⟩
  ·
   rw [if_neg c6] at H
   have c6b0 : decide (a0 < 10) = false := decide_eq_false c6
   clear c6
   replace H := Option.bind_eq_some_iff.mp H
   obtain ⟨t678, A100, H⟩ := H
   have A10 := as0 A100
   clear A100
   obtain ⟨y679, hy679⟩ : ∃ y_ : List Int, y_ = (([(wrap64 (48 + (Int.tmod a0 10))) % 256] : List Int)) := ⟨_, rfl⟩
   replace H : (if t678.size + (strOfNums y679).size ≤ 9223372036854775807 then (some (t678 ++ (strOfNums y679))) else (none)) = some r := by first | (rw [hy679]; with_reducible exact H) | (have H2_ := (Option.bind_some _ _).symm.trans H; rw [hy679]; with_reducible exact H2_) | (have H2_ := (Option.bind_some _ _).symm.trans H; with_reducible exact H2_) | with_reducible exact H | (rw [hy679]; exact H) | exact H
   have Ny679 := as0 hy679
   clear hy679
   by_cases c11 : t678.size + (strOfNums y679).size ≤ 9223372036854775807
   ·
    rw [if_pos c11] at H
    have c11b0 := eq_true c11
    have c11b1 : decide (t678.size + (strOfNums y679).size ≤ 9223372036854775807) = true := decide_eq_true c11
    try have c11b2 : (9223372036854775807 < t678.size + (strOfNums y679).size) = False := eq_false (Nat.not_lt.2 c11)
    obtain rfl := Option.some.inj H
    go_enter Tryz.func79, Tryz.ntmps79
    try go_wp2
    have n0_ := as0 (below_drew1 HB.out)
    clear HB
    have HB := n0_
    clear n0_
    refine start_ (n := 11) (S := fun w' => True) (ds := []) #[false, false, false, false, false, false, false, false, false, false, false] (by kernel_rfl) rfl rfl trivial (fun hHeld => ?_); refine with_tabW spec_l01Dec.tab5 spec_l01Dec.bits5 (fun HT_ HW_ => ?_)
    generalize w.drew = w12 at HB hHeld ⊢
    refine pm_ HT_ (i := 0) (N := some 16) ?_
    refine pm_ HT_ (i := 1) (N := some 17) ?_
    refine pm_ HT_ (i := 3) (N := some 19) ?_
    refine pm_ HT_ (i := 4) (N := some 20) ?_
    refine pm_ HT_ (i := 5) (N := some 21) ?_
    refine pm_ HT_ (i := 6) (N := some 22) ?_
    refine join_ (σ := Value) 2 #[true, true, true, true, true, true, true, true, true, false, false] (fun s_ => [(18, .string t678), (23, s_), (24, .string (strOfNums y679))]) (fun s_ w' => (Kd.R (Kd.int .u8) 5 w' w.heap.size (fun _ => True) s_ y679) ∧ (Below w.heap.size w w')) ?_ ?_
    rotate_left
    ·
     intro hCont
     refine two_ (i := 2) (j := 7) (Ni := some 18) (Nj := some 23) #[true, true, true, true, true, true, true, false, false, false, false] #[true, true, false, true, true, true, true, true, false, false, false] rfl rfl rfl rfl (two_of HT_.out (by kernel_rfl)) (by decide) (by decide) (fun K hK => ?_) (fun K hK => ?_)
     ·
      skip
      refine goes_ Tryz.func79 (by kernel_rfl) rfl #[.int .i64 (wrap64 (Int.tdiv a0 10))] (by rfl) rfl rfl (by (try simp only [List.map_toArray, List.map_cons, List.map_nil]); first | done | rfl | (simp only [List.length_drop, List.length_take]; rfl)) ?_
      with_reducible refine (ih k (by omega) (wrap64 (Int.tdiv a0 10)) t678 _ A10.out).mono ?_
      rintro e w13 ⟨rfl, hb⟩
      refine ⟨_, rfl, ?_⟩
      have n0_ := as0 (below_step (bs HB) hb)
      clear HB
      have HB := n0_
      clear n0_
      (try clear hb)
      (try clear hb2)
      (try clear hk)
      (try clear hi)
      refine hK.out _ _ trivial (fun hHeld => ?_)
      clear hK K
      refine nm_ (some 18) ?_
      refine one_ (i := 7) (N := some 23) #[true, true, true, true, true, true, true, true, false, false, false] rfl rfl (one_of HT_.out (by kernel_rfl)) (by decide) (fun K hK => ?_)
      refine Kd.R_lit_step (Kd.int .u8) _ 5 ?hg (N := 23) ?hd (xs := ([(wrap64 (48 + (Int.tmod a0 10))) % 256] : List Int)) (inner := [.int .u8 ((wrap64 (48 + (Int.tmod a0 10))) % 256)]) (ok := fun _ => True) (okp := fun _ => True) ?hr ?hp (fun _ hk => hk) trivial (Below.refl _ _) (Nat.le_refl _) (by simp) ?_; (case hd => rfl); (case hg => rfl); (case hr => first | (go_simp; done) | (go_simp; rfl)); (case hp => exact (Reps.one (show Kd.M (Kd.int .u8) _ _ _ ((wrap64 (48 + (Int.tmod a0 10))) % 256) [.int .u8 ((wrap64 (48 + (Int.tmod a0 10))) % 256)] from rfl) (Reps.none _ _)))
      intro v680 w14 ho15 hb hg_ hnew_
      clear hg_ hnew_
      (first | rw [← Ny679.out] at ho15 | (simp only [Int.reduceToNat] at ho15; rw [← Ny679.out] at ho15))
      have n0_ := as0 (Kd.R_lower ho15 (below_size (bs HB)))
      have n1_ := as0 (below_step (bs HB) hb)
      clear HB
      have HO681 := n0_
      have HB := n1_
      clear n0_ n1_
      clear hb ho15
      refine hK.out _ _ trivial (fun hHeld => ?_)
      clear hK K
      refine nm_ (some 23) ?_
      refine one_ (i := 8) (N := some 24) #[true, true, true, true, true, true, true, true, true, false, false] rfl rfl (one_of HT_.out (by kernel_rfl)) (by decide) (fun K hK => ?_)
      have hcv16 := own_string (P := Tryz.prog) Tryz.underlying22 Tryz.underlying5 Tryz.underlying9 (Kd.own_of_R HO681.out)
      refine value_ (w1 := ?_) (v := ?_) (by rfl) rfl ?_ ?_
      rotate_left 2
      ·
       go_simp
       constructor
       ·
        rfl
       ·
        rfl
      clear hcv16
      refine hK.out _ _ trivial (fun hHeld => ?_)
      clear hK K
      refine nm_ (some 24) ?_
      exact norm_ (by simp only [putAll, Act.put, List.setIfInBounds_toArray, List.set_cons_zero, List.set_cons_succ]) (hCont (v680) _ ⟨(rs HO681), (bs HB)⟩)
     ·
      skip
      refine Kd.R_lit_step (Kd.int .u8) _ 5 ?hg (N := 23) ?hd (xs := ([(wrap64 (48 + (Int.tmod a0 10))) % 256] : List Int)) (inner := [.int .u8 ((wrap64 (48 + (Int.tmod a0 10))) % 256)]) (ok := fun _ => True) (okp := fun _ => True) ?hr ?hp (fun _ hk => hk) trivial (Below.refl _ _) (Nat.le_refl _) (by simp) ?_; (case hd => rfl); (case hg => rfl); (case hr => first | (go_simp; done) | (go_simp; rfl)); (case hp => exact (Reps.one (show Kd.M (Kd.int .u8) _ _ _ ((wrap64 (48 + (Int.tmod a0 10))) % 256) [.int .u8 ((wrap64 (48 + (Int.tmod a0 10))) % 256)] from rfl) (Reps.none _ _)))
      intro v680 w13 ho14 hb hg_ hnew_
      clear hg_ hnew_
      (first | rw [← Ny679.out] at ho14 | (simp only [Int.reduceToNat] at ho14; rw [← Ny679.out] at ho14))
      have n0_ := as0 (Kd.R_lower ho14 (below_size (bs HB)))
      have n1_ := as0 (below_step (bs HB) hb)
      clear HB
      have HO681 := n0_
      have HB := n1_
      clear n0_ n1_
      clear hb ho14
      refine hK.out _ _ trivial (fun hHeld => ?_)
      clear hK K
      refine nm_ (some 23) ?_
      refine two_ (i := 2) (j := 8) (Ni := some 18) (Nj := some 24) #[true, true, true, true, true, true, true, true, false, false, false] #[true, true, false, true, true, true, true, true, true, false, false] rfl rfl rfl rfl (two_of HT_.out (by kernel_rfl)) (by decide) (by decide) (fun K hK => ?_) (fun K hK => ?_)
      ·
       skip
       refine goes_ Tryz.func79 (by kernel_rfl) rfl #[.int .i64 (wrap64 (Int.tdiv a0 10))] (by rfl) rfl rfl (by (try simp only [List.map_toArray, List.map_cons, List.map_nil]); first | done | rfl | (simp only [List.length_drop, List.length_take]; rfl)) ?_
       with_reducible refine (ih k (by omega) (wrap64 (Int.tdiv a0 10)) t678 _ A10.out).mono ?_
       rintro e w15 ⟨rfl, hb⟩
       refine ⟨_, rfl, ?_⟩
       have n0_ := as0 (Kd.R_below (rs HO681) hb)
       have n1_ := as0 (below_step (bs HB) hb)
       clear HO681
       clear HB
       have HO681 := n0_
       have HB := n1_
       clear n0_ n1_
       (try clear hb)
       (try clear hb2)
       (try clear hk)
       (try clear hi)
       refine hK.out _ _ trivial (fun hHeld => ?_)
       clear hK K
       refine nm_ (some 18) ?_
       refine one_ (i := 8) (N := some 24) #[true, true, true, true, true, true, true, true, true, false, false] rfl rfl (one_of HT_.out (by kernel_rfl)) (by decide) (fun K hK => ?_)
       have hcv16 := own_string (P := Tryz.prog) Tryz.underlying22 Tryz.underlying5 Tryz.underlying9 (Kd.own_of_R HO681.out)
       refine value_ (w1 := ?_) (v := ?_) (by rfl) rfl ?_ ?_
       rotate_left 2
       ·
        go_simp
        constructor
        ·
         rfl
        ·
         rfl
       clear hcv16
       refine hK.out _ _ trivial (fun hHeld => ?_)
       clear hK K
       refine nm_ (some 24) ?_
       exact norm_ (by simp only [putAll, Act.put, List.setIfInBounds_toArray, List.set_cons_zero, List.set_cons_succ]) (hCont (v680) _ ⟨(rs HO681), (bs HB)⟩)
      ·
       skip
       have hcv15 := own_string (P := Tryz.prog) Tryz.underlying22 Tryz.underlying5 Tryz.underlying9 (Kd.own_of_R HO681.out)
       refine value_ (w1 := ?_) (v := ?_) (by rfl) rfl ?_ ?_
       rotate_left 2
       ·
        go_simp
        constructor
        ·
         rfl
        ·
         rfl
       clear hcv15
       refine hK.out _ _ trivial (fun hHeld => ?_)
       clear hK K
       refine nm_ (some 24) ?_
       refine one_ (i := 2) (N := some 18) #[true, true, true, true, true, true, true, true, true, false, false] rfl rfl (one_of HT_.out (by kernel_rfl)) (by decide) (fun K hK => ?_)
       refine goes_ Tryz.func79 (by kernel_rfl) rfl #[.int .i64 (wrap64 (Int.tdiv a0 10))] (by rfl) rfl rfl (by (try simp only [List.map_toArray, List.map_cons, List.map_nil]); first | done | rfl | (simp only [List.length_drop, List.length_take]; rfl)) ?_
       with_reducible refine (ih k (by omega) (wrap64 (Int.tdiv a0 10)) t678 _ A10.out).mono ?_
       rintro e w16 ⟨rfl, hb⟩
       refine ⟨_, rfl, ?_⟩
       have n0_ := as0 (Kd.R_below (rs HO681) hb)
       have n1_ := as0 (below_step (bs HB) hb)
       clear HO681
       clear HB
       have HO681 := n0_
       have HB := n1_
       clear n0_ n1_
       (try clear hb)
       (try clear hb2)
       (try clear hk)
       (try clear hi)
       refine hK.out _ _ trivial (fun hHeld => ?_)
       clear hK K
       refine nm_ (some 18) ?_
       exact norm_ (by simp only [putAll, Act.put, List.setIfInBounds_toArray, List.set_cons_zero, List.set_cons_succ]) (hCont (v680) _ ⟨(rs HO681), (bs HB)⟩)
    rintro v680 w17 ⟨h0_, h1_⟩
    have n0_ : Aside0 (Kd.R (Kd.int .u8) 5 w17 w.heap.size (fun _ => True) v680 y679) := ⟨h0_⟩
    have n1_ : Aside0 (Below w.heap.size w w17) := ⟨h1_⟩
    clear HB
    clear h0_ h1_
    have HO681 := n0_
    have HB := n1_
    clear n0_ n1_
    have hHeld := trivial
    refine norm_ (a' := ?_) ?_ ?_
    rotate_left
    ·
     simp only [putAll, Act.put, List.setIfInBounds_toArray, List.set_cons_zero, List.set_cons_succ]
     rfl
    refine pm_ HT_ (i := 9) (N := some 25) ?_
    refine pm_ HT_ (i := 10) (N := some 2) ?_
    refine done_ (done_of HT_.out (by kernel_rfl)) ?_
    try go_wp2
    go_ret
    exact ⟨er_, bs HB⟩
   ·
    rw [if_neg c11] at H
    exact absurd H (by simp)
def spec_l01Text.l0 : Nat → List Int → ByteArray → Int → Option (ByteArray)
 | 0, _, _, _ => none
 | k + 1, x0, x3, x4 => if x4 ≥ 0 then (if 0 ≤ x4 then (if x4 < (x0.length : Int) then ((spec_l01Dec.f k (rd x0 x4)).bind fun t683 => (if x3.size + t683.size ≤ 9223372036854775807 then (if x4 > 0 then (if (x3 ++ t683).size + 1 ≤ 9223372036854775807 then (spec_l01Text.l0 k x0 ((x3 ++ t683) ++ (⟨#[44]⟩ : ByteArray)) (wrap64 (x4 - 1))) else (none)) else (spec_l01Text.l0 k x0 (x3 ++ t683) (wrap64 (x4 - 1)))) else (none))) else (none)) else (none)) else (some x3)
def spec_l01Text.f (k : Nat) (l0 : List Int) : Option (ByteArray) := if (l0.length : Int) = 0 then (some (⟨#[48]⟩ : ByteArray)) else (spec_l01Text.l0 k l0 (⟨#[]⟩ : ByteArray) (wrap64 ((l0.length : Int) - 1)))
set_option maxHeartbeats 8000000 in
set_option maxRecDepth 100000 in
theorem spec_l01Text.calls (k : Nat) (A0 : Option Addr) (c0 : Nat) (l0 : List Int) (r : ByteArray) (w : World) (hr0 : Kd.C (Kd.int .i64) w A0 l0.length l0) (hc0 : l0.length ≤ c0) (h : spec_l01Text.f k l0 = some r) :
  Calls Tryz.prog 50 #[.slice A0 l0.length c0] w fun e w' => e = .returned (.string r) ∧ Below w.heap.size w w' := by
 have HR0 := as0 hr0
 have HC0 := as0 hc0
 clear hr0 hc0
 have HB := as0 (Below.refl w.heap.size w)
 have H : (if (l0.length : Int) = 0 then (some (⟨#[48]⟩ : ByteArray)) else (spec_l01Text.l0 k l0 (⟨#[]⟩ : ByteArray) (wrap64 ((l0.length : Int) - 1)))) = some r := h
 clear h
 by_cases c2 : (l0.length : Int) = 0
 ·
  rw [if_pos c2] at H
  have c2b0 : ((l0.length : Int) == 0) = true := beq_iff_eq.mpr c2
  have c2b1 : ((l0.length : Int) != 0) = false := bne_eq_false_iff_eq.mpr c2
  clear c2
  obtain rfl := Option.some.inj H
  go_enter Tryz.func50, Tryz.ntmps50
  go_wp2
  go_ret
  exact ⟨er_, bs HB⟩
 ·
  rw [if_neg c2] at H
  have c2b0 : ((l0.length : Int) == 0) = false := beq_eq_false_iff_ne.mpr c2
  have c2b1 : ((l0.length : Int) != 0) = true := bne_iff_ne.mpr c2
  have c2b2 : ¬ (l0 = []) := fun h_ => c2 (by rw [h_]; rfl)
  have H' := as0 H
  clear H
  go_enter Tryz.func50, Tryz.ntmps50
  go_wp2
  go_loopg [3, 4] k (fun kq v3 v4 w' => ∃ (x3_1 : ByteArray) (x4_1 : Int), v3 = .string x3_1 ∧ v4 = .int .i64 x4_1 ∧ Aside0 (spec_l01Text.l0 kq l0 x3_1 x4_1 = some r) ∧ Aside0 (kq ≤ k) ∧ Aside0 (Below w.heap.size w w'))
  case atStart => exact ⟨((⟨#[]⟩ : ByteArray)), (wrap64 ((l0.length : Int) - 1)), ea_, ea_, H', ⟨Nat.le_refl _⟩, ⟨bs HB⟩⟩
  case round =>
   clear H'
   try clear c2
   try clear c2b0
   try clear c2b1
   try clear c2b2
   try clear p2
   obtain ⟨x3_1, x4_1, rfl, rfl, HA, HK1, HB⟩ := hrel
   cases gk with
   | zero => exact absurd HA.out (by simp [spec_l01Text.l0])
   | succ k1 =>
    have H := HA.out
    clear HA
    simp only [spec_l01Text.l0] at H
    by_cases c3 : x4_1 ≥ 0
    ·
     rw [if_pos c3] at H
     have c3b0 : decide (0 ≤ x4_1) = true := decide_eq_true c3
     clear c3
     by_cases c4 : 0 ≤ x4_1
     ·
      rw [if_pos c4] at H
      have c4b0 : decide (0 ≤ x4_1) = true := decide_eq_true c4
      clear c4
      by_cases c5 : x4_1 < (l0.length : Int)
      ·
       rw [if_pos c5] at H
       have c5b0 : decide (x4_1 < (l0.length : Int)) = true := decide_eq_true c5
       clear c5
       replace H := Option.bind_eq_some_iff.mp H
       obtain ⟨t683, A60, H⟩ := H
       have A6 := as0 A60
       clear A60
       by_cases c7 : x3_1.size + t683.size ≤ 9223372036854775807
       ·
        rw [if_pos c7] at H
        have c7b0 := eq_true c7
        have c7b1 : decide (x3_1.size + t683.size ≤ 9223372036854775807) = true := decide_eq_true c7
        try have c7b2 : (9223372036854775807 < x3_1.size + t683.size) = False := eq_false (Nat.not_lt.2 c7)
        by_cases c8 : x4_1 > 0
        ·
         rw [if_pos c8] at H
         have c8b0 : decide (0 < x4_1) = true := decide_eq_true c8
         clear c8
         by_cases c9 : (x3_1 ++ t683).size + 1 ≤ 9223372036854775807
         ·
          rw [if_pos c9] at H
          have c9b0 := eq_true c9
          have c9b1 : decide ((x3_1 ++ t683).size + 1 ≤ 9223372036854775807) = true := decide_eq_true c9
          try have c9b2 : (9223372036854775807 < (x3_1 ++ t683).size + 1) = False := eq_false (Nat.not_lt.2 c9)
          have c9s : x3_1.size + t683.size + 1 ≤ 9223372036854775807 := by simpa [ByteArray.size_append] using c9
          have c9b3 := eq_true c9s
          have c9b4 : decide (x3_1.size + t683.size + 1 ≤ 9223372036854775807) = true := decide_eq_true c9s
          have c9b5 : (9223372036854775807 < x3_1.size + t683.size + 1) = False := eq_false (Nat.not_lt.2 c9s)
          clear c9s
          have H' := as0 H
          clear H
          have p682 : 0 ≤ (x4_1 : Int) := oa_
          have q682 : x4_1 < (l0.length : Int) := oa_
          obtain ⟨ad682, e682, hx682_0⟩ := Kd.at_int HR0.out x4_1 p682 q682
          cases e682
          replace hx682_0 := (HB.out.cell (World.block_lt_of_cell? w _ hx682_0)).trans hx682_0
          replace p682 := eq_true p682
          replace q682 := eq_true q682
          go_wp2_with (first | ((with_reducible refine gate_callee (f := 79) rfl ?_); refine goesM_ (some 20) rfl rfl Tryz.func79 #[.int .i64 (rd l0 x4_1)] rfl ?_; (with_reducible refine (spec_l01Dec.calls k1 (rd l0 x4_1) t683 _ A6.out).mono ?_); rintro e w10 ⟨rfl, hb⟩; refine ⟨_, rfl, ?_⟩; have n0_ := as0 (below_step (bs HB) hb); clear HB; have HB := n0_; clear n0_; (try clear hb); (try clear hb2); (try clear hk); (try clear hi)))
          go_roundg k1
          case measure => have := HK1.out; omega
          case rel => exact ⟨((x3_1 ++ t683) ++ (⟨#[44]⟩ : ByteArray)), (wrap64 (x4_1 - 1)), ea_, ea_, H', ⟨by have := HK1.out; omega⟩, ⟨bs HB⟩⟩
         ·
          rw [if_neg c9] at H
          exact absurd H (by simp)
        ·
         rw [if_neg c8] at H
         have c8b0 : decide (0 < x4_1) = false := decide_eq_false c8
         clear c8
         have H' := as0 H
         clear H
         have p682 : 0 ≤ (x4_1 : Int) := oa_
         have q682 : x4_1 < (l0.length : Int) := oa_
         obtain ⟨ad682, e682, hx682_0⟩ := Kd.at_int HR0.out x4_1 p682 q682
         cases e682
         replace hx682_0 := (HB.out.cell (World.block_lt_of_cell? w _ hx682_0)).trans hx682_0
         replace p682 := eq_true p682
         replace q682 := eq_true q682
         go_wp2_with (first | ((with_reducible refine gate_callee (f := 79) rfl ?_); refine goesM_ (some 20) rfl rfl Tryz.func79 #[.int .i64 (rd l0 x4_1)] rfl ?_; (with_reducible refine (spec_l01Dec.calls k1 (rd l0 x4_1) t683 _ A6.out).mono ?_); rintro e w11 ⟨rfl, hb⟩; refine ⟨_, rfl, ?_⟩; have n0_ := as0 (below_step (bs HB) hb); clear HB; have HB := n0_; clear n0_; (try clear hb); (try clear hb2); (try clear hk); (try clear hi)))
         go_roundg k1
         case measure => have := HK1.out; omega
         case rel => exact ⟨(x3_1 ++ t683), (wrap64 (x4_1 - 1)), ea_, ea_, H', ⟨by have := HK1.out; omega⟩, ⟨bs HB⟩⟩
       ·
        rw [if_neg c7] at H
        exact absurd H (by simp)
      ·
       rw [if_neg c5] at H
       exact absurd H (by simp)
     ·
      rw [if_neg c4] at H
      exact absurd H (by simp)
    ·
     rw [if_neg c3] at H
     have c3b0 : decide (0 ≤ x4_1) = false := decide_eq_false c3
     clear c3
     obtain rfl := Option.some.inj H
     go_wp2
     go_ret
     exact ⟨er_, bs HB⟩
def spec_PolyText.f (k : Nat) (a0 : Int) (l1 : List Int) : Option (ByteArray × Int) := (spec_l01Code.f k a0 (([l1] : List (List Int)))).bind fun t687 => (if t687 = 0 then ((spec_l01Text.f k l1).bind fun t688 => (some (t688, 0))) else (some ((⟨#[]⟩ : ByteArray), t687)))
set_option maxHeartbeats 8000000 in
set_option maxRecDepth 100000 in
theorem spec_PolyText.calls (k : Nat) (a0 : Int) (P1_ : Nat → Prop) (A1 : Option Addr) (c1 : Nat) (l1 : List Int) (r1 : ByteArray) (r2 : Int) (w : World) (hs1 : Kd.V (Kd.int .i64) 2 w w.heap.size (fun k_ => P1_ k_) (.slice A1 l1.length c1) l1) (h : spec_PolyText.f k a0 l1 = some (r1, r2)) :
  Calls Tryz.prog 18 #[.int .i64 a0, .slice A1 l1.length c1] w fun e w' => e = .returned (.tuple #[.string r1, .int .i64 r2]) ∧ Below w.heap.size w w' := by
 have HO1 := as0 (show Kd.V (Kd.int .i64) 2 w w.heap.size (fun k_ => (P1_ k_ ∨ w.heap.size ≤ k_)) (.slice A1 l1.length c1) l1 from Kd.V_mono hs1 (fun k_ hk => .inl hk))
 have HB := as0 (Below.refl w.heap.size w)
 have H : ((spec_l01Code.f k a0 (([l1] : List (List Int)))).bind fun t687 => (if t687 = 0 then ((spec_l01Text.f k l1).bind fun t688 => (some (t688, 0))) else (some ((⟨#[]⟩ : ByteArray), t687)))) = some (r1, r2) := h
 clear h
 obtain ⟨y684, hy684⟩ : ∃ y_ : List (List Int), y_ = (([l1] : List (List Int))) := ⟨_, rfl⟩
 replace H : ((spec_l01Code.f k a0 y684).bind fun t687 => (if t687 = 0 then ((spec_l01Text.f k l1).bind fun t688 => (some (t688, 0))) else (some ((⟨#[]⟩ : ByteArray), t687)))) = some (r1, r2) := by first | (rw [hy684]; with_reducible exact H) | (have H2_ := (Option.bind_some _ _).symm.trans H; rw [hy684]; with_reducible exact H2_) | (have H2_ := (Option.bind_some _ _).symm.trans H; with_reducible exact H2_) | with_reducible exact H | (rw [hy684]; exact H) | exact H
 have Ny684 := as0 hy684
 clear hy684
 replace H := Option.bind_eq_some_iff.mp H
 obtain ⟨t687, A30, H⟩ := H
 have A3 := as0 A30
 clear A30
 by_cases c4 : t687 = 0
 ·
  rw [if_pos c4] at H
  have c4b0 : (t687 == 0) = true := beq_iff_eq.mpr c4
  have c4b1 : (t687 != 0) = false := bne_eq_false_iff_eq.mpr c4
  clear c4
  replace H := Option.bind_eq_some_iff.mp H
  obtain ⟨t688, A50, H⟩ := H
  have A5 := as0 A50
  clear A50
  simp only [Option.some.injEq, Prod.mk.injEq] at H
  obtain ⟨rfl, rfl⟩ := H
  go_enter Tryz.func18, Tryz.ntmps18
  go_wp2_with (first | ((with_reducible refine gate_dst (N := 9) rfl ?_); refine Kd.N_lit (Kd.slice 2 (Kd.int .i64)) _ 24 ?hg (N' := 9) ?hd (xs := ([l1] : List (List Int))) (inner := [.slice A1 l1.length c1]) (ok := (fun k_ => (P1_ k_ ∨ w.heap.size ≤ k_))) (okp := (fun k_ => (P1_ k_ ∨ w.heap.size ≤ k_))) ?hr ?hp (fun _ hk => hk) ((show ∀ k_, w.heap.size ≤ k_ → (fun k_ => (P1_ k_ ∨ w.heap.size ≤ k_)) k_ from fun k_ hk => (.inr (Nat.le_trans (below_size (bs HB)) hk))) _ (Nat.le_refl _)) (Below.refl _ _) (Nat.le_refl _) (by simp) ?_; (case hd => rfl); (case hg => rfl); (case hr => first | (go_simp; done) | (go_simp; rfl)); (case hp => exact (Reps.one (show Kd.FK (Kd.slice 2 (Kd.int .i64)) _ _ l1 [.slice A1 l1.length c1] from (Kd.FK_slice_mk (Kd.V_reads' (Kd.V_mono (ok' := (fun k_ => (P1_ k_ ∨ w.heap.size ≤ k_))) (HO1.out) (fun k_ hk => hk))).2.1 (Kd.V_F (Kd.V_mono (ok' := (fun k_ => (P1_ k_ ∨ w.heap.size ≤ k_))) (HO1.out) (fun k_ hk => hk))))) (Reps.none _ _))); intro v685 w6 ho7 hb hg_ hnew_; clear hg_ hnew_; (first | rw [← Ny684.out] at ho7 | (simp only [Int.reduceToNat] at ho7; rw [← Ny684.out] at ho7)); have n0_ := as0 (Kd.V_elder' (by (with_reducible repeat (first | apply Kd.V_alloc | apply Kd.V_drewN | apply Kd.V_drew)); exact HO1.out) (Kd.N_base ho7) hb); have n1_ := as0 (Kd.N_lower ho7 (below_size (bs HB))); have n2_ := as0 (below_step (bs HB) hb); clear HO1; clear HB; have HO1 := n0_; have HO686 := n1_; have HB := n2_; clear n0_ n1_ n2_; clear hb ho7; obtain ⟨Ao8, co8, eo8⟩ := Kd.N_slice HO686.out; subst eo8) | ((with_reducible refine gate_callee (f := 42) rfl ?_); refine goesM_ (some 10) rfl rfl Tryz.func42 #[.int .i64 a0, .slice Ao8 y684.length co8] rfl ?_; (with_reducible refine (spec_l01Code.calls k a0 _ _ y684 t687 _ ?side1 ?side2 A3.out).mono ?_); (case side1 => exact cs ((Kd.N_reads' HO686.out).2.2)); (case side2 => exact (Kd.N_reads' HO686.out).2.1); rintro e w' ⟨rfl, ⟨nd, rfl⟩⟩; refine ⟨_, rfl, ?_⟩) | ((with_reducible refine gate_callee (f := 50) rfl ?_); refine goesM_ (some 15) rfl rfl Tryz.func50 #[.slice A1 l1.length c1] rfl ?_; (with_reducible refine (spec_l01Text.calls k _ _ l1 t688 _ ?side1 ?side2 A5.out).mono ?_); (case side1 => exact cs ((Kd.V_reads' HO1.out).2.2)); (case side2 => exact (Kd.V_reads' HO1.out).2.1); rintro e w9 ⟨rfl, hb⟩; refine ⟨_, rfl, ?_⟩; have n0_ := as0 (Kd.V_below (by (with_reducible repeat (first | apply Kd.V_alloc | apply Kd.V_drewN | apply Kd.V_drew)); exact HO1.out) hb); have n1_ := as0 (Kd.N_below (by (with_reducible repeat (first | apply Kd.N_alloc | apply Kd.N_drewN | apply Kd.N_drew)); exact HO686.out) hb); have n2_ := as0 (below_step (bs HB) hb); clear HO1; clear HO686; clear HB; have HO1 := n0_; have HO686 := n1_; have HB := n2_; clear n0_ n1_ n2_; (try clear hb); (try clear hb2); (try clear hk); (try clear hi)))
  go_ret2
  exact ⟨er_, bs HB⟩
 ·
  rw [if_neg c4] at H
  have c4b0 : (t687 == 0) = false := beq_eq_false_iff_ne.mpr c4
  have c4b1 : (t687 != 0) = true := bne_iff_ne.mpr c4
  simp only [Option.some.injEq, Prod.mk.injEq] at H
  obtain ⟨rfl, rfl⟩ := H
  go_enter Tryz.func18, Tryz.ntmps18
  go_wp2_with (first | ((with_reducible refine gate_dst (N := 9) rfl ?_); refine Kd.N_lit (Kd.slice 2 (Kd.int .i64)) _ 24 ?hg (N' := 9) ?hd (xs := ([l1] : List (List Int))) (inner := [.slice A1 l1.length c1]) (ok := (fun k_ => (P1_ k_ ∨ w.heap.size ≤ k_))) (okp := (fun k_ => (P1_ k_ ∨ w.heap.size ≤ k_))) ?hr ?hp (fun _ hk => hk) ((show ∀ k_, w.heap.size ≤ k_ → (fun k_ => (P1_ k_ ∨ w.heap.size ≤ k_)) k_ from fun k_ hk => (.inr (Nat.le_trans (below_size (bs HB)) hk))) _ (Nat.le_refl _)) (Below.refl _ _) (Nat.le_refl _) (by simp) ?_; (case hd => rfl); (case hg => rfl); (case hr => first | (go_simp; done) | (go_simp; rfl)); (case hp => exact (Reps.one (show Kd.FK (Kd.slice 2 (Kd.int .i64)) _ _ l1 [.slice A1 l1.length c1] from (Kd.FK_slice_mk (Kd.V_reads' (Kd.V_mono (ok' := (fun k_ => (P1_ k_ ∨ w.heap.size ≤ k_))) (HO1.out) (fun k_ hk => hk))).2.1 (Kd.V_F (Kd.V_mono (ok' := (fun k_ => (P1_ k_ ∨ w.heap.size ≤ k_))) (HO1.out) (fun k_ hk => hk))))) (Reps.none _ _))); intro v685 w10 ho11 hb hg_ hnew_; clear hg_ hnew_; (first | rw [← Ny684.out] at ho11 | (simp only [Int.reduceToNat] at ho11; rw [← Ny684.out] at ho11)); have n0_ := as0 (Kd.V_elder' (by (with_reducible repeat (first | apply Kd.V_alloc | apply Kd.V_drewN | apply Kd.V_drew)); exact HO1.out) (Kd.N_base ho11) hb); have n1_ := as0 (Kd.N_lower ho11 (below_size (bs HB))); have n2_ := as0 (below_step (bs HB) hb); clear HO1; clear HB; have HO1 := n0_; have HO686 := n1_; have HB := n2_; clear n0_ n1_ n2_; clear hb ho11; obtain ⟨Ao12, co12, eo12⟩ := Kd.N_slice HO686.out; subst eo12) | ((with_reducible refine gate_callee (f := 42) rfl ?_); refine goesM_ (some 10) rfl rfl Tryz.func42 #[.int .i64 a0, .slice Ao12 y684.length co12] rfl ?_; (with_reducible refine (spec_l01Code.calls k a0 _ _ y684 t687 _ ?side1 ?side2 A3.out).mono ?_); (case side1 => exact cs ((Kd.N_reads' HO686.out).2.2)); (case side2 => exact (Kd.N_reads' HO686.out).2.1); rintro e w' ⟨rfl, ⟨nd, rfl⟩⟩; refine ⟨_, rfl, ?_⟩))
  go_ret2
  exact ⟨er_, bs HB⟩
end Go.Proofs.YtmadpicanmjhhaaGreatDoor.H
namespace Go.Proofs
open Go.Shelf
def Tryz.laysC174_ren : Go.Shelf.Ren := ⟨fun | 174 => 53 | 247 => 82 | 245 => 83 | 287 => 105 | 279 => 106 | 280 => 107 | 281 => 108 | 282 => 109 | 321 => 123 | 322 => 124 | 316 => 125 | 171 => 127 | 205 => 126 | 243 => 142 | 246 => 116 | 283 => 131 | 284 => 132 | 285 => 133 | 286 => 134 | 129 => 153 | 317 => 154 | 318 => 155 | 319 => 156 | 320 => 157 | 337 => 166 | 338 => 167 | n => n, fun | 9 => 9 | 3 => 3 | 2 => 2 | 75 => 66 | 85 => 67 | 4 => 4 | 167 => 113 | 5 => 5 | 53 => 75 | 175 => 114 | 46 => 78 | 168 => 116 | 37 => 22 | 0 => 0 | 210 => 130 | 21 => 21 | 127 => 121 | 145 => 147 | 143 => 145 | 171 => 136 | 173 => 139 | 212 => 160 | 51 => 158 | 20 => 20 | 213 => 161 | 232 => 178 | 233 => 179 | 80 => 110 | n => n, fun | 15 => 0 | 16 => 1 | 17 => 3 | 18 => 6 | 19 => 7 | n => n⟩
theorem Tryz.laysC174 : Go.Proofs.LaysC.n174 Tryz.prog Tryz.laysC174_ren := {
 mixed := by kernel_rfl
 f129 := Tryz.func153.trans (congrArg some (by kernel_rfl))
 f171 := Tryz.func127.trans (congrArg some (by kernel_rfl))
 f174 := Tryz.func53.trans (congrArg some (by kernel_rfl))
 f205 := Tryz.func126.trans (congrArg some (by kernel_rfl))
 f243 := Tryz.func142.trans (congrArg some (by kernel_rfl))
 f245 := Tryz.func83.trans (congrArg some (by kernel_rfl))
 f246 := Tryz.func116.trans (congrArg some (by kernel_rfl))
 f247 := Tryz.func82.trans (congrArg some (by kernel_rfl))
 f279 := Tryz.func106.trans (congrArg some (by kernel_rfl))
 f280 := Tryz.func107.trans (congrArg some (by kernel_rfl))
 f281 := Tryz.func108.trans (congrArg some (by kernel_rfl))
 f282 := Tryz.func109.trans (congrArg some (by kernel_rfl))
 f283 := Tryz.func131.trans (congrArg some (by kernel_rfl))
 f284 := Tryz.func132.trans (congrArg some (by kernel_rfl))
 f285 := Tryz.func133.trans (congrArg some (by kernel_rfl))
 f286 := Tryz.func134.trans (congrArg some (by kernel_rfl))
 f287 := Tryz.func105.trans (congrArg some (by kernel_rfl))
 f316 := Tryz.func125.trans (congrArg some (by kernel_rfl))
 f317 := Tryz.func154.trans (congrArg some (by kernel_rfl))
 f318 := Tryz.func155.trans (congrArg some (by kernel_rfl))
 f319 := Tryz.func156.trans (congrArg some (by kernel_rfl))
 f320 := Tryz.func157.trans (congrArg some (by kernel_rfl))
 f321 := Tryz.func123.trans (congrArg some (by kernel_rfl))
 f322 := Tryz.func124.trans (congrArg some (by kernel_rfl))
 f337 := Tryz.func166.trans (congrArg some (by kernel_rfl))
 f338 := Tryz.func167.trans (congrArg some (by kernel_rfl))
 t0 := Tryz.underlying0
 a0 := Tryz.isAgg0
 z0 := Tryz.sizeOf0
 v0 := Tryz.zeroValue0
 t2 := Tryz.underlying2
 a2 := Tryz.isAgg2
 z2 := Tryz.sizeOf2
 v2 := Tryz.zeroValue2
 t3 := Tryz.underlying3
 a3 := Tryz.isAgg3
 z3 := Tryz.sizeOf3
 v3 := Tryz.zeroValue3
 t4 := Tryz.underlying4
 a4 := Tryz.isAgg4
 z4 := Tryz.sizeOf4
 v4 := Tryz.zeroValue4
 t5 := Tryz.underlying5
 a5 := Tryz.isAgg5
 z5 := Tryz.sizeOf5
 v5 := Tryz.zeroValue5
 t9 := Tryz.underlying9
 a9 := Tryz.isAgg9
 z9 := Tryz.sizeOf9
 v9 := Tryz.zeroValue9
 t20 := Tryz.underlying20
 a20 := Tryz.isAgg20
 z20 := Tryz.sizeOf20
 v20 := Tryz.zeroValue20
 t21 := Tryz.underlying21
 a21 := Tryz.isAgg21
 z21 := Tryz.sizeOf21
 v21 := Tryz.zeroValue21
 t37 := Tryz.underlying22
 a37 := Tryz.isAgg22
 z37 := Tryz.sizeOf22
 v37 := Tryz.zeroValue22
 t46 := Tryz.underlying78
 a46 := Tryz.isAgg78
 z46 := Tryz.sizeOf78
 v46 := Tryz.zeroValue78
 t51 := Tryz.underlying158
 a51 := Tryz.isAgg158
 z51 := Tryz.sizeOf158
 v51 := Tryz.zeroValue158
 t53 := Tryz.underlying75
 a53 := Tryz.isAgg75
 z53 := Tryz.sizeOf75
 v53 := Tryz.zeroValue75
 t75 := Tryz.underlying66
 a75 := Tryz.isAgg66
 z75 := Tryz.sizeOf66
 v75 := Tryz.zeroValue66
 t85 := Tryz.underlying67
 a85 := Tryz.isAgg67
 z85 := Tryz.sizeOf67
 v85 := Tryz.zeroValue67
 t127 := Tryz.underlying121
 a127 := Tryz.isAgg121
 z127 := Tryz.sizeOf121
 v127 := Tryz.zeroValue121
 t143 := Tryz.underlying145
 a143 := Tryz.isAgg145
 z143 := Tryz.sizeOf145
 v143 := Tryz.zeroValue145
 t145 := Tryz.underlying147
 a145 := Tryz.isAgg147
 z145 := Tryz.sizeOf147
 v145 := Tryz.zeroValue147
 t167 := Tryz.underlying113
 a167 := Tryz.isAgg113
 z167 := Tryz.sizeOf113
 v167 := Tryz.zeroValue113
 t168 := Tryz.underlying116
 a168 := Tryz.isAgg116
 z168 := Tryz.sizeOf116
 v168 := Tryz.zeroValue116
 t171 := Tryz.underlying136
 a171 := Tryz.isAgg136
 z171 := Tryz.sizeOf136
 v171 := Tryz.zeroValue136
 t173 := Tryz.underlying139
 a173 := Tryz.isAgg139
 z173 := Tryz.sizeOf139
 v173 := Tryz.zeroValue139
 t175 := Tryz.underlying114
 a175 := Tryz.isAgg114
 z175 := Tryz.sizeOf114
 v175 := Tryz.zeroValue114
 t210 := Tryz.underlying130
 a210 := Tryz.isAgg130
 z210 := Tryz.sizeOf130
 v210 := Tryz.zeroValue130
 t212 := Tryz.underlying160
 a212 := Tryz.isAgg160
 z212 := Tryz.sizeOf160
 v212 := Tryz.zeroValue160
 t213 := Tryz.underlying161
 a213 := Tryz.isAgg161
 z213 := Tryz.sizeOf161
 t232 := Tryz.underlying178
 a232 := Tryz.isAgg178
 z232 := Tryz.sizeOf178
 v232 := Tryz.zeroValue178
 t233 := Tryz.underlying179
 a233 := Tryz.isAgg179
 z233 := Tryz.sizeOf179
 v233 := Tryz.zeroValue179
 g15 := by kernel_rfl
 g16 := by kernel_rfl
 g17 := by kernel_rfl
 g18 := by kernel_rfl
 g19 := by kernel_rfl
 t80 := Tryz.underlying110
 a80 := Tryz.isAgg110
 z80 := Tryz.sizeOf110
 v80 := Tryz.zeroValue110
 i0 := by kernel_rfl
 i2 := by kernel_rfl
 i3 := by kernel_rfl
 i4 := by kernel_rfl
 i5 := by kernel_rfl
 i9 := by kernel_rfl
 i20 := by kernel_rfl
 i21 := by kernel_rfl
 i37 := by kernel_rfl
 i46 := by kernel_rfl
 i51 := by kernel_rfl
 i53 := by kernel_rfl
 i75 := by kernel_rfl
 i80 := by kernel_rfl
 i85 := by kernel_rfl
 i127 := by kernel_rfl
 i143 := by kernel_rfl
 i145 := by kernel_rfl
 i167 := by kernel_rfl
 i168 := by kernel_rfl
 i171 := by kernel_rfl
 i173 := by kernel_rfl
 i175 := by kernel_rfl
 i210 := by kernel_rfl
 i212 := by kernel_rfl
 i232 := by kernel_rfl
 i233 := by kernel_rfl
 m15 := by kernel_rfl
 m16 := by kernel_rfl
 m17 := by kernel_rfl
 m18 := by kernel_rfl
 m19 := by kernel_rfl
 c0 := by kernel_rfl
 c2 := by kernel_rfl
 c3 := by kernel_rfl
 c4 := by kernel_rfl
 c5 := by kernel_rfl
 c9 := by kernel_rfl
 c20 := by kernel_rfl
 c21 := by kernel_rfl
 c37 := by kernel_rfl
 c46 := by kernel_rfl
 c51 := by kernel_rfl
 c53 := by kernel_rfl
 c75 := by kernel_rfl
 c80 := by kernel_rfl
 c85 := by kernel_rfl
 c127 := by kernel_rfl
 c143 := by kernel_rfl
 c145 := by kernel_rfl
 c167 := by kernel_rfl
 c168 := by kernel_rfl
 c171 := by kernel_rfl
 c173 := by kernel_rfl
 c175 := by kernel_rfl
 c210 := by kernel_rfl
 c212 := by kernel_rfl
 c213 := by kernel_rfl
 c232 := by kernel_rfl
 c233 := by kernel_rfl }
open Go.RowKit in
theorem Tryz.strconv_ParseInt_10_at64_ok (s : ByteArray) (hmax : s.size ≤ 9223372036854775806) (v : Int) (h : Lib.parseIntB 64 s.data.toList = .ok v) (w : World) :
  Calls Tryz.prog 53 #[.string s, .int .i64 10, .int .i64 64] w fun e w' => e = .returned (.tuple #[.int .i64 v, .nilIface]) ∧ (w' = w ∨ ∃ t, w' = Lib.bytesWorld w 5 t) := Any.strconv_ParseInt_10_at64_ok Tryz.laysC174 s hmax v h w
open Go.RowKit in
theorem Tryz.strconv_ParseInt_10_at64_syntax_var (s : ByteArray) (hlim : s.size ≤ 281474976710656) (h1 : ∀ v, Lib.parseIntB 64 s.data.toList ≠ .ok v) (h2 : Lib.parseIntB 64 s.data.toList ≠ .range) (tp : TypeId) (p : Value) (w : World) (hvar : w.var? Tryz.prog "strconv.ErrSyntax" = some #[.iface tp p]) :
  Calls Tryz.prog 53 #[.string s, .int .i64 10, .int .i64 64] w fun e w' => ∃ N, e = .returned (.tuple #[.int .i64 (0), .iface 116 (.pointer (some ⟨N, 0, none⟩))]) ∧ w.heap.size ≤ N ∧ w'.heap[N]? = some (.cells #[.string ⟨#[80, 97, 114, 115, 101, 73, 110, 116]⟩, .string s, .iface tp p] 130 (0, 0)) ∧ Below w.heap.size w w' := by
 cases h : Lib.parseIntB 64 s.data.toList with
 | ok v => exact absurd h (h1 v)
 | range => exact absurd h h2
 | _ => exact Any.strconv_ParseInt_10_at64_syntax_var Tryz.laysC174 s hlim h tp p w hvar
open Go.RowKit in
theorem Tryz.strconv_ParseInt_10_at64_range_var (s : ByteArray) (hlim : s.size ≤ 281474976710656) (h : Lib.parseIntB 64 s.data.toList = .range) (tp : TypeId) (p : Value) (w : World) (hvar : w.var? Tryz.prog "strconv.ErrRange" = some #[.iface tp p]) :
  Calls Tryz.prog 53 #[.string s, .int .i64 10, .int .i64 64] w fun e w' => ∃ N, e = .returned (.tuple #[.int .i64 (Lib.intSat 64 s.data.toList), .iface 116 (.pointer (some ⟨N, 0, none⟩))]) ∧ w.heap.size ≤ N ∧ w'.heap[N]? = some (.cells #[.string ⟨#[80, 97, 114, 115, 101, 73, 110, 116]⟩, .string s, .iface tp p] 130 (0, 0)) ∧ Below w.heap.size w w' := Any.strconv_ParseInt_10_at64_range_var Tryz.laysC174 s hlim h tp p w hvar
def Tryz.lays146_ren : Go.Shelf.Ren := ⟨fun | 146 => 52 | 221 => 81 | 268 => 102 | 138 => 103 | 143 => 104 | 195 => 119 | 197 => 120 | 218 => 121 | 219 => 122 | 260 => 137 | 217 => 138 | 225 => 139 | 224 => 140 | 267 => 141 | 266 => 158 | 314 => 159 | n => n, fun | 9 => 9 | 31 => 63 | 3 => 3 | 4 => 4 | 0 => 0 | 105 => 123 | 21 => 21 | 5 => 5 | 46 => 78 | 119 => 163 | 139 => 166 | 138 => 165 | 146 => 167 | 51 => 158 | n => n, fun | 1 => 2 | 3 => 4 | 4 => 5 | n => n⟩
theorem Tryz.lays146 : Go.Proofs.Lays.n146 Tryz.prog Tryz.lays146_ren := {
 mixed := by kernel_rfl
 f138 := Tryz.func103.trans (congrArg some (by kernel_rfl))
 f143 := Tryz.func104.trans (congrArg some (by kernel_rfl))
 f146 := Tryz.func52.trans (congrArg some (by kernel_rfl))
 f195 := Tryz.func119.trans (congrArg some (by kernel_rfl))
 f197 := Tryz.func120.trans (congrArg some (by kernel_rfl))
 f217 := Tryz.func138.trans (congrArg some (by kernel_rfl))
 f218 := Tryz.func121.trans (congrArg some (by kernel_rfl))
 f219 := Tryz.func122.trans (congrArg some (by kernel_rfl))
 f221 := Tryz.func81.trans (congrArg some (by kernel_rfl))
 f224 := Tryz.func140.trans (congrArg some (by kernel_rfl))
 f225 := Tryz.func139.trans (congrArg some (by kernel_rfl))
 f260 := Tryz.func137.trans (congrArg some (by kernel_rfl))
 f266 := Tryz.func158.trans (congrArg some (by kernel_rfl))
 f267 := Tryz.func141.trans (congrArg some (by kernel_rfl))
 f268 := Tryz.func102.trans (congrArg some (by kernel_rfl))
 f314 := Tryz.func159.trans (congrArg some (by kernel_rfl))
 t0 := Tryz.underlying0
 a0 := Tryz.isAgg0
 z0 := Tryz.sizeOf0
 v0 := Tryz.zeroValue0
 t3 := Tryz.underlying3
 a3 := Tryz.isAgg3
 z3 := Tryz.sizeOf3
 v3 := Tryz.zeroValue3
 t4 := Tryz.underlying4
 a4 := Tryz.isAgg4
 z4 := Tryz.sizeOf4
 v4 := Tryz.zeroValue4
 t5 := Tryz.underlying5
 a5 := Tryz.isAgg5
 z5 := Tryz.sizeOf5
 v5 := Tryz.zeroValue5
 t9 := Tryz.underlying9
 a9 := Tryz.isAgg9
 z9 := Tryz.sizeOf9
 v9 := Tryz.zeroValue9
 t21 := Tryz.underlying21
 a21 := Tryz.isAgg21
 z21 := Tryz.sizeOf21
 v21 := Tryz.zeroValue21
 t31 := Tryz.underlying63
 a31 := Tryz.isAgg63
 z31 := Tryz.sizeOf63
 v31 := Tryz.zeroValue63
 t46 := Tryz.underlying78
 a46 := Tryz.isAgg78
 z46 := Tryz.sizeOf78
 v46 := Tryz.zeroValue78
 t51 := Tryz.underlying158
 a51 := Tryz.isAgg158
 z51 := Tryz.sizeOf158
 v51 := Tryz.zeroValue158
 t105 := Tryz.underlying123
 a105 := Tryz.isAgg123
 z105 := Tryz.sizeOf123
 v105 := Tryz.zeroValue123
 t119 := Tryz.underlying163
 a119 := Tryz.isAgg163
 z119 := Tryz.sizeOf163
 t138 := Tryz.underlying165
 a138 := Tryz.isAgg165
 z138 := Tryz.sizeOf165
 v138 := Tryz.zeroValue165
 t139 := Tryz.underlying166
 a139 := Tryz.isAgg166
 z139 := Tryz.sizeOf166
 v139 := Tryz.zeroValue166
 t146 := Tryz.underlying167
 a146 := Tryz.isAgg167
 z146 := Tryz.sizeOf167
 v146 := Tryz.zeroValue167
 g1 := by kernel_rfl
 g3 := by kernel_rfl
 g4 := by kernel_rfl }
open Go.RowKit Go.Lib in
theorem Tryz.strings_Split (s sep : ByteArray) (m : Int) (w : World) (hs : s.size < 4294967281) (hm : w.cell? ⟨2, 0, none⟩ = some (.int .i64 m)) (h1 : 1 ≤ sep.size) :
  Calls Tryz.prog 52 #[.string s, .string sep] w fun e w' =>
   e = .returned (.slice (some ⟨w.heap.size, 0, none⟩) (Lib.countB s sep + 1) (Lib.countB s sep + 1)) ∧ w' = w.alloc (.cells ((Lib.splitB sep 0 (Lib.countB s sep) s).map Value.string).toArray 9) := Any.strings_Split Tryz.lays146 (by kernel_rfl) s sep m w hs hm h1
def Tryz.laysM146_ren : Go.Shelf.Ren := ⟨fun | 146 => 52 | 221 => 81 | 268 => 102 | 138 => 103 | 143 => 104 | 195 => 119 | 197 => 120 | 218 => 121 | 219 => 122 | 260 => 137 | 217 => 138 | 225 => 139 | 224 => 140 | 267 => 141 | 266 => 158 | 314 => 159 | n => n, fun | 9 => 9 | 31 => 63 | 3 => 3 | 4 => 4 | 0 => 0 | 105 => 123 | 21 => 21 | 5 => 5 | 46 => 78 | 119 => 163 | 139 => 166 | 138 => 165 | 146 => 167 | 51 => 158 | n => n, fun | 1 => 2 | 3 => 4 | 4 => 5 | n => n⟩
theorem Tryz.laysM146 : Go.Proofs.LaysM.n146 Tryz.prog Tryz.laysM146_ren := {
 mixed := by kernel_rfl
 f138 := Tryz.func103.trans (congrArg some (by kernel_rfl))
 f143 := Tryz.func104.trans (congrArg some (by kernel_rfl))
 f146 := Tryz.func52.trans (congrArg some (by kernel_rfl))
 f195 := Tryz.func119.trans (congrArg some (by kernel_rfl))
 f197 := Tryz.func120.trans (congrArg some (by kernel_rfl))
 f217 := Tryz.func138.trans (congrArg some (by kernel_rfl))
 f218 := Tryz.func121.trans (congrArg some (by kernel_rfl))
 f219 := Tryz.func122.trans (congrArg some (by kernel_rfl))
 f221 := Tryz.func81.trans (congrArg some (by kernel_rfl))
 f224 := Tryz.func140.trans (congrArg some (by kernel_rfl))
 f225 := Tryz.func139.trans (congrArg some (by kernel_rfl))
 f260 := Tryz.func137.trans (congrArg some (by kernel_rfl))
 f266 := Tryz.func158.trans (congrArg some (by kernel_rfl))
 f267 := Tryz.func141.trans (congrArg some (by kernel_rfl))
 f268 := Tryz.func102.trans (congrArg some (by kernel_rfl))
 f314 := Tryz.func159.trans (congrArg some (by kernel_rfl))
 t0 := Tryz.underlying0
 a0 := Tryz.isAgg0
 z0 := Tryz.sizeOf0
 v0 := Tryz.zeroValue0
 t3 := Tryz.underlying3
 a3 := Tryz.isAgg3
 z3 := Tryz.sizeOf3
 v3 := Tryz.zeroValue3
 t4 := Tryz.underlying4
 a4 := Tryz.isAgg4
 z4 := Tryz.sizeOf4
 v4 := Tryz.zeroValue4
 t5 := Tryz.underlying5
 a5 := Tryz.isAgg5
 z5 := Tryz.sizeOf5
 v5 := Tryz.zeroValue5
 t9 := Tryz.underlying9
 a9 := Tryz.isAgg9
 z9 := Tryz.sizeOf9
 v9 := Tryz.zeroValue9
 t21 := Tryz.underlying21
 a21 := Tryz.isAgg21
 z21 := Tryz.sizeOf21
 v21 := Tryz.zeroValue21
 t31 := Tryz.underlying63
 a31 := Tryz.isAgg63
 z31 := Tryz.sizeOf63
 v31 := Tryz.zeroValue63
 t46 := Tryz.underlying78
 a46 := Tryz.isAgg78
 z46 := Tryz.sizeOf78
 v46 := Tryz.zeroValue78
 t51 := Tryz.underlying158
 a51 := Tryz.isAgg158
 z51 := Tryz.sizeOf158
 v51 := Tryz.zeroValue158
 t105 := Tryz.underlying123
 a105 := Tryz.isAgg123
 z105 := Tryz.sizeOf123
 v105 := Tryz.zeroValue123
 t119 := Tryz.underlying163
 a119 := Tryz.isAgg163
 z119 := Tryz.sizeOf163
 t138 := Tryz.underlying165
 a138 := Tryz.isAgg165
 z138 := Tryz.sizeOf165
 v138 := Tryz.zeroValue165
 t139 := Tryz.underlying166
 a139 := Tryz.isAgg166
 z139 := Tryz.sizeOf166
 v139 := Tryz.zeroValue166
 t146 := Tryz.underlying167
 a146 := Tryz.isAgg167
 z146 := Tryz.sizeOf167
 v146 := Tryz.zeroValue167
 g1 := by kernel_rfl
 g3 := by kernel_rfl
 g4 := by kernel_rfl
 i0 := by kernel_rfl
 i3 := by kernel_rfl
 i4 := by kernel_rfl
 i5 := by kernel_rfl
 i9 := by kernel_rfl
 i21 := by kernel_rfl
 i31 := by kernel_rfl
 i46 := by kernel_rfl
 i51 := by kernel_rfl
 i105 := by kernel_rfl
 i138 := by kernel_rfl
 i139 := by kernel_rfl
 i146 := by kernel_rfl
 m1 := by kernel_rfl
 s1_3 := fun w h => Go.Proofs.cell_of_shapedOpen_int (zero := #[.int .i64 0]) (t := 3) h (of_decide_eq_true (by kernel_rfl)) (by kernel_rfl) rfl (by kernel_rfl) (by kernel_rfl) Tryz.underlying3
 m3 := by kernel_rfl
 m4 := by kernel_rfl }
end Go.Proofs
set_option linter.unusedVariables false
set_option linter.unusedSimpArgs false
namespace Go.Proofs.YtmadpicanmjhhaaGreatDoor.H
open Go.RowKit Go.Proofs.YtmadpicanmjhhaaGreatDoorW.PrintWords Go.Proofs.YtmadpicanmjhhaaGreatDoor.Num
theorem Ev.succ {α : Type} {g : Nat → Option α} {r : α} (h : Ev (fun k => g (k + 1)) r) : Ev g r := by
 obtain ⟨K, h⟩ := h
 refine ⟨K + 1, fun k hk => ?_⟩
 obtain ⟨m, rfl⟩ : ∃ m, k = m + 1 := ⟨k - 1, by omega⟩
 exact h m (by omega)
theorem Ev_to {α : Type} {g : Nat → Option α} {r r' : α} (h : Ev g r) (e : r = r') : Ev g r' := e ▸ h
theorem wp1 {i : Nat} (h : i ≤ 1000000000000) : wrap64 ((i : Int) + 1) = ((i + 1 : Nat) : Int) := by rw [w64 (by omega) (by omega)]; omega
theorem wm1 {i : Nat} (h : i ≤ 1000000000000) : wrap64 ((i : Int) - 1) = (i : Int) - 1 := w64 (by omega) (by omega)
theorem ws1 {i : Nat} : ((i + 1 : Nat) : Int) - 1 = (i : Int) := by omega
theorem rd_n (l : List Int) (i : Nat) : rd l (i : Int) = l.getD i 0 := by simp [rd]
end Go.Proofs.YtmadpicanmjhhaaGreatDoor.H
namespace Go.Proofs.YtmadpicanmjhhaaGreatDoor.H
open Go.RowKit Go.Proofs.YtmadpicanmjhhaaGreatDoorW.PrintWords Go.Proofs.YtmadpicanmjhhaaGreatDoorW.PrintLast Go.Proofs.YtmadpicanmjhhaaGreatDoorW.PrintMore
attribute [local go_sem] max2_int min2_int max_two min_two max_three min_three max_four min_four   -- for this text's walks alone
set_option linter.unusedVariables false
set_option linter.unusedSimpArgs false
def slices_Reverse_int64_int64.l0 : Nat → List Int → Int → Int → Option (List Int)
 | 0, _, _, _ => none
 | k + 1, x0, x2, x3 => if x2 < x3 then (if 0 ≤ x3 then (if x3 < (x0.length : Int) then (if 0 ≤ x2 then (if x2 < (x0.length : Int) then (slices_Reverse_int64_int64.l0 k ((x0.set (x2 : Int).toNat (rd x0 x3)).set (x3 : Int).toNat (rd x0 x2)) (wrap64 (x2 + 1)) (wrap64 (x3 - 1))) else (none)) else (none)) else (none)) else (none)) else (some x0)
def slices_Reverse_int64_int64.f (k : Nat) (l0 : List Int) : Option (List Int) := slices_Reverse_int64_int64.l0 k l0 0 (wrap64 ((l0.length : Int) - 1))
def slices_Reverse_int64_int64.T3 : Bool × List (List Nat × List Nat) := (true, [([], []), ([], []), ([], []), ([], []), ([], []), ([], []), ([4, 5], [4, 5]), ([6], [6]), ([], []), ([], []), ([8, 9], [8, 9]), ([10], [10]), ([0, 1, 0, 1, 4, 5, 6, 7, 11], [0, 1]), ([12, 7, 0, 1, 4, 5, 6, 7, 11], [7, 12]), ([2, 3, 0, 1, 2, 3, 4, 5, 6, 7, 8, 9, 10, 11, 12, 13], [2, 3]), ([14, 11, 13, 0, 1, 2, 3, 4, 5, 6, 7, 8, 9, 10, 11, 12, 13], [11, 14])])
def slices_Reverse_int64_int64.B3 : List Nat := [0, 0, 0, 0, 0, 0, 48, 112, 0, 0, 768, 1792, 4083, 8179, 16383, 32767]
theorem slices_Reverse_int64_int64.tab3 : rtab .any (opsOf Tryz.f54 3) = slices_Reverse_int64_int64.T3 := by kernel_rfl
theorem slices_Reverse_int64_int64.bits3 : waitsOk slices_Reverse_int64_int64.T3.2 slices_Reverse_int64_int64.B3 = true := by kernel_rfl
set_option maxHeartbeats 8000000 in
set_option maxRecDepth 100000 in
theorem slices_Reverse_int64_int64.calls (k : Nat) (P0_ : Nat → Prop) (u9000_ : Value) (l0 : List Int) (r : List Int) (w0 w : World) (hB : Below w0.heap.size w0 w) (ho0 : Kd.R (Kd.int .i64) 2 w w0.heap.size P0_ u9000_ l0) (h : slices_Reverse_int64_int64.f k l0 = some r) :
  Calls Tryz.prog 54 #[u9000_] w fun e w' => e = .returned (.tuple #[]) ∧ Kd.R (Kd.int .i64) 2 w' w0.heap.size (fun k_ => (P0_ k_ ∨ w.heap.size ≤ k_)) u9000_ r ∧ Below w0.heap.size w0 w' ∧ Kept w w' (fun k_ => P0_ k_) := by
 have HO0 := as0 (show Kd.R (Kd.int .i64) 2 w w0.heap.size (fun k_ => (P0_ k_ ∨ w.heap.size ≤ k_)) u9000_ l0 from Kd.R_mono ho0 (fun k_ hk => (.inl hk)))
 have HK := as0 (Kept.refl w (fun k_ => P0_ k_))
 have HW0 := as0 hB.size
 have HB := as0 hB
 clear hB
 have H : (slices_Reverse_int64_int64.l0 k l0 0 (wrap64 ((l0.length : Int) - 1))) = some r := h
 clear h
 have H' := as0 H
 clear H
 obtain ⟨Ao2, co2, eo2⟩ := Kd.R_slice HO0.out
 subst eo2
 go_enter Tryz.func54, Tryz.ntmps54
 go_wp2
 go_loopg [2, 3] k (fun kq v2 v3 w' => ∃ (x0_1 : List Int) (x2_1 : Int) (x3_1 : Int), v2 = .int .i64 x2_1 ∧ v3 = .int .i64 x3_1 ∧ Aside0 (slices_Reverse_int64_int64.l0 kq x0_1 x2_1 x3_1 = some r) ∧ Aside0 (kq ≤ k) ∧ Aside0 (Kd.R (Kd.int .i64) 2 w' w0.heap.size (fun k_ => (P0_ k_ ∨ w.heap.size ≤ k_)) (.slice Ao2 l0.length co2) x0_1) ∧ Aside0 (Kept w w' (fun k_ => P0_ k_)) ∧ Aside0 (Below w0.heap.size w0 w'))
 case atStart => exact ⟨(l0), (0), (wrap64 ((l0.length : Int) - 1)), ea_, ea_, H', ⟨Nat.le_refl _⟩, ⟨rs HO0⟩, ⟨by repeat (first | (with_reducible first | exact HK.out | apply Kept.alloc | apply Kept.drewN | apply Kept.drew) | exact HK.out)⟩, ⟨bs HB⟩⟩
 case round =>
  clear H'
  try clear p2
  obtain ⟨x0_1, x2_1, x3_1, rfl, rfl, HA, HK1, HO_0, HK, HB⟩ := hrel
  have hl0_1 := (Kd.R_reads' HO_0.out).1
  rw [hl0_1] at HO_0
  (try simp only [hl0_1])
  cases gk with
  | zero => exact absurd HA.out (by simp [slices_Reverse_int64_int64.l0])
  | succ k1 =>
   have H := HA.out
   clear HA
   simp only [slices_Reverse_int64_int64.l0] at H
   by_cases c3 : x2_1 < x3_1
   ·
    rw [if_pos c3] at H
    have c3b0 : decide (x2_1 < x3_1) = true := decide_eq_true c3
    clear c3
    by_cases c4 : 0 ≤ x3_1
    ·
     rw [if_pos c4] at H
     have c4b0 : decide (0 ≤ x3_1) = true := decide_eq_true c4
     clear c4
     by_cases c5 : x3_1 < (x0_1.length : Int)
     ·
      rw [if_pos c5] at H
      have c5b0 : decide (x3_1 < (x0_1.length : Int)) = true := decide_eq_true c5
      clear c5
      by_cases c6 : 0 ≤ x2_1
      ·
       rw [if_pos c6] at H
       have c6b0 : decide (0 ≤ x2_1) = true := decide_eq_true c6
       clear c6
       by_cases c7 : x2_1 < (x0_1.length : Int)
       ·
        rw [if_pos c7] at H
        have c7b0 : decide (x2_1 < (x0_1.length : Int)) = true := decide_eq_true c7
        clear c7
        obtain ⟨y708, hy708⟩ : ∃ y_ : List Int, y_ = (x0_1.set (x2_1 : Int).toNat (rd x0_1 x3_1)) := ⟨_, rfl⟩
        replace H : (slices_Reverse_int64_int64.l0 k1 (y708.set (x3_1 : Int).toNat (rd x0_1 x2_1)) (wrap64 (x2_1 + 1)) (wrap64 (x3_1 - 1))) = some r := by first | (rw [hy708]; with_reducible exact H) | (have H2_ := (Option.bind_some _ _).symm.trans H; rw [hy708]; with_reducible exact H2_) | (have H2_ := (Option.bind_some _ _).symm.trans H; with_reducible exact H2_) | with_reducible exact H | (rw [hy708]; exact H) | exact H
        have Ny708 := as0 hy708
        clear hy708
        obtain ⟨y709, hy709⟩ : ∃ y_ : List Int, y_ = (y708.set (x3_1 : Int).toNat (rd x0_1 x2_1)) := ⟨_, rfl⟩
        replace H : (slices_Reverse_int64_int64.l0 k1 y709 (wrap64 (x2_1 + 1)) (wrap64 (x3_1 - 1))) = some r := by first | (rw [hy709]; with_reducible exact H) | (have H2_ := (Option.bind_some _ _).symm.trans H; rw [hy709]; with_reducible exact H2_) | (have H2_ := (Option.bind_some _ _).symm.trans H; with_reducible exact H2_) | with_reducible exact H | (rw [hy709]; exact H) | exact H
        have Ny709 := as0 hy709
        clear hy709
        have H' := as0 H
        clear H
        try go_wp2
        have n0_ := as0 (Kd.R_drew HO_0.out)
        have n1_ := as0 (Kept.drew HK.out)
        have n2_ := as0 (below_drew1 HB.out)
        clear HO_0
        clear HK
        clear HB
        have HO_0 := n0_
        have HK := n1_
        have HB := n2_
        clear n0_ n1_ n2_
        have p706 : 0 ≤ (x3_1 : Int) := oa_
        have q706 : x3_1 < (x0_1.length : Int) := oa_
        obtain ⟨ad706, e706, hx706_0⟩ := Kd.at_int (Kd.R_reads' HO_0.out).2.2 x3_1 p706 q706
        cases e706
        replace p706 := eq_true p706
        replace q706 := eq_true q706
        have p707 : 0 ≤ (x2_1 : Int) := oa_
        have q707 : x2_1 < (x0_1.length : Int) := oa_
        obtain ⟨ad707, e707, hx707_0⟩ := Kd.at_int (Kd.R_reads' HO_0.out).2.2 x2_1 p707 q707
        obtain rfl : ad706 = ad707 := (by injection e707)
        replace p707 := eq_true p707
        replace q707 := eq_true q707
        have p8 : 0 ≤ (x2_1 : Int) := oa_
        have q8 : (x2_1 : Int) < ((x0_1.length : Int) : Int) := oa_
        obtain ⟨go8, co8, eo8, gb8, gl8, cl8, HG8⟩ := Kd.R_form HO_0.out (by omega)
        (first | cases eo8 | (injection eo8 with ea_ en_ ec_; (first | subst ea_ | (injection ea_ with ea_; subst ea_)); subst ec_; clear en_))
        have GB8 := as0 gb8
        have GG8 := as0 HG8
        clear gb8 gl8 HG8
        have HMgo8 := as0 (show (P0_ go8 ∨ w.heap.size ≤ go8) from (HO_0.out.1 _ rfl))
        (first | simp only [add_plain] at hx706_0 | skip)
        (first | simp only [add_plain] at hx707_0 | skip)
        obtain ⟨hx8_0, hf8_0⟩ := Kd.R_celln 0 HO_0.out (x2_1 : Int) p8 q8
        replace p8 := eq_true p8
        replace q8 := eq_true q8
        have HP11 := Kd.R_putn HO_0.out (x2_1 : Int) (rd x0_1 x3_1)
        rw [← Ny708.out] at HP11
        have HQ11 := as0 HP11
        clear HP11
        have p9 : 0 ≤ (x3_1 : Int) := oa_
        have q9 : (x3_1 : Int) < ((x0_1.length : Int) : Int) := oa_
        obtain ⟨hx9_0, hf9_0⟩ := Kd.R_celln 0 HQ11.out (x3_1 : Int) p9 q9
        replace p9 := eq_true p9
        replace q9 := eq_true q9
        have HP12 := Kd.R_putn HQ11.out (x3_1 : Int) (rd x0_1 x2_1)
        rw [← Ny709.out] at HP12
        have HQ12 := as0 HP12
        clear HP12
        refine start_ (n := 16) (S := fun w' => w'.cell? ⟨go8, (x3_1).toNat, none⟩ = some (.int .i64 (rd x0_1 x3_1)) ∧ w'.cell? ⟨go8, (x2_1).toNat, none⟩ = some (.int .i64 (rd x0_1 x2_1))) (ds := [13, 15]) #[false, false, false, false, false, false, false, false, false, false, false, false, false, false, false, false] (by kernel_rfl) rfl rfl ⟨hx706_0, hx707_0⟩ (fun hHeld => ?_); refine with_tabW slices_Reverse_int64_int64.tab3 slices_Reverse_int64_int64.bits3 (fun HT_ HW_ => ?_)
        generalize wr.drew = w10 at HO_0 HK HB GG8 HQ11 HQ12 hf8_0 hf9_0 hx706_0 hx707_0 hx8_0 hx9_0 hHeld ⊢
        refine pm_ HT_ (i := 0) (N := some 14) ?_
        refine pm_ HT_ (i := 1) (N := some 15) ?_
        refine pm_ HT_ (i := 2) (N := some 16) ?_
        refine pm_ HT_ (i := 3) (N := some 17) ?_
        refine pm_ HT_ (i := 4) (N := some 18) ?_
        refine pm_ HT_ (i := 5) (N := some 19) ?_
        refine pm_ HT_ (i := 6) (N := some 20) ?_
        refine pm_ HT_ (i := 8) (N := some 22) ?_
        refine pm_ HT_ (i := 9) (N := some 23) ?_
        refine pm_ HT_ (i := 10) (N := some 24) ?_
        refine tm2_ HT_ HW_ (i := 7) (N := some 21) hHeld ?_
        refine tm2_ HT_ HW_ (i := 11) (N := some 25) hHeld ?_
        refine pm_ HT_ (i := 12) (N := some 26) ?_
        refine last_ (i := 13) (N := none) #[true, true, true, true, true, true, true, true, true, true, true, true, true, true, false, false] rfl rfl (one_of HT_.out (by kernel_rfl)) (by decide) (fun K hK => ?_)
        refine skip_ (w1 := ?_) (by rfl) rfl ?_ ?_
        rotate_left
        ·
         go_simp
         rfl
        refine hK.out _ _ ?_
        clear hK K
        refine pm_ HT_ (i := 14) (N := some 27) ?_
        refine last_ (i := 15) (N := none) #[true, true, true, true, true, true, true, true, true, true, true, true, true, true, true, true] rfl rfl (one_of HT_.out (by kernel_rfl)) (by decide) (fun K hK => ?_)
        refine skip_ (w1 := ?_) (by rfl) rfl ?_ ?_
        rotate_left
        ·
         go_simp
         rfl
        refine hK.out _ _ ?_
        clear hK K
        refine done_ (done_of HT_.out (by kernel_rfl)) ?_
        try go_wp2
        (try simp only [← hl0_1])
        go_roundg k1
        case measure => have := HK1.out; omega
        case rel => exact ⟨(y709), (wrap64 (x2_1 + 1)), (wrap64 (x3_1 - 1)), ea_, ea_, H', ⟨by have := HK1.out; omega⟩, ⟨by (try simp only [hl0_1]); (with_reducible repeat (first | apply Kd.R_alloc | apply Kd.R_drewN | apply Kd.R_drew)); exact HQ12.out⟩, ⟨by repeat (first | (with_reducible first | exact HK.out | apply Kept.alloc | apply Kept.drewN | apply Kept.drew | refine Kept.setCell ?_ HMgo8.out _ | refine Kept.setCell ?_ HMgo8.out _) | exact HK.out)⟩, ⟨by repeat (first | (with_reducible first | exact HB.out | apply below_alloc | apply pw_below_drewN | apply below_drew1 | refine below_set ?_ GB8.out | refine below_set ?_ GB8.out) | exact HB.out)⟩⟩
       ·
        rw [if_neg c7] at H
        exact absurd H (by simp)
      ·
       rw [if_neg c6] at H
       exact absurd H (by simp)
     ·
      rw [if_neg c5] at H
      exact absurd H (by simp)
    ·
     rw [if_neg c4] at H
     exact absurd H (by simp)
   ·
    rw [if_neg c3] at H
    have c3b0 : decide (x2_1 < x3_1) = false := decide_eq_false c3
    clear c3
    obtain rfl := Option.some.inj H
    go_wp2
    first | go_end0 | ((try simp only [Exit.inBlock, Exit.then]); refine bodyPost_ret (results_none rfl _ _ _) rfl ?_)
    exact ⟨er_, (by first | exact (rs HO_0) | (simp only [hl0_1]; exact (rs HO_0))), by repeat (first | (with_reducible first | exact HB.out | apply below_alloc | apply pw_below_drewN | apply below_drew1) | exact HB.out), by repeat (first | (with_reducible first | exact HK.out | apply Kept.alloc | apply Kept.drewN | apply Kept.drew) | exact HK.out)⟩
end Go.Proofs.YtmadpicanmjhhaaGreatDoor.H
set_option linter.unusedVariables false
set_option linter.unusedSimpArgs false
namespace Go.Proofs.YtmadpicanmjhhaaGreatDoor.H
open Go.RowKit Go.Proofs.YtmadpicanmjhhaaGreatDoorW.PrintWords Go.Proofs.YtmadpicanmjhhaaGreatDoorW.PrintLast Go.Proofs.YtmadpicanmjhhaaGreatDoorW.PrintMore Go.Proofs.YtmadpicanmjhhaaGreatDoor.Num
def cop (l : List Int) (i : Nat) : Int := l.getD i 0
theorem cop_set (l : List Int) (i j : Nat) (x : Int) (h : i < l.length) : cop (l.set i x) j = if j = i then x else cop l j := by
 unfold cop
 simp only [List.getD_eq_getElem?_getD]
 by_cases e : j = i
 ·
  subst e; rw [List.getElem?_set_self h, if_pos rfl]; rfl
 ·
  rw [List.getElem?_set_ne (Ne.symm e), if_neg e]
theorem cop_ext {l l' : List Int} (hl : l.length = l'.length) (he : ∀ i, i < l.length → cop l i = cop l' i) : l = l' :=
 List.ext_getElem hl fun i a b => by
  have := he i a
  unfold cop at this
  rwa [List.getD_eq_getElem?_getD, List.getD_eq_getElem?_getD, List.getElem?_eq_getElem a, List.getElem?_eq_getElem b] at this
theorem cop_reverse (l : List Int) (i : Nat) (h : i < l.length) : cop l.reverse i = cop l (l.length - 1 - i) := by
 unfold cop
 rw [List.getD_eq_getElem?_getD, List.getD_eq_getElem?_getD, List.getElem?_reverse h]
theorem impl_reverse_ (l : List Int) (hl : l.length ≤ 4000000000) : Ev (fun k => slices_Reverse_int64_int64.f k l) l.reverse := by
 have loop : ∀ (d i : Nat) (xs : List Int), xs.length = l.length → i + d = l.length → (∀ t, t < l.length → cop xs t = if t < i ∨ l.length - i ≤ t then cop l (l.length - 1 - t) else cop l t) →
   Ev (fun k => slices_Reverse_int64_int64.l0 k xs (i : Int) ((l.length : Int) - 1 - i)) l.reverse := by
  intro d
  induction d with
  | zero =>
   intro i xs h1 h2 h3
   refine Ev.succ ?_
   simp (disch := omega) only [slices_Reverse_int64_int64.l0, if_neg]
   refine Ev_to (Ev.now _) (cop_ext (by simpa using h1) fun t ht => ?_)
   rw [h3 t (by omega), cop_reverse l t (by omega), if_pos (by omega)]
  | succ d ih =>
   intro i xs h1 h2 h3
   refine Ev.succ ?_
   by_cases hlt : (i : Int) < (l.length : Int) - 1 - i
   ·
    have hj : (l.length : Int) - 1 - i = ((l.length - 1 - i : Nat) : Int) := by omega
    have hi := ih (i + 1) ((xs.set i (xs.getD (l.length - 1 - i) 0)).set (l.length - 1 - i) (xs.getD i 0)) (by simpa using h1) (by omega) (fun t ht => by
     rw [cop_set _ _ _ _ (by simpa using by omega)]
     by_cases e1 : t = l.length - 1 - i
     ·
      rw [if_pos e1, if_pos (by omega)]
      have := h3 i (by omega)
      unfold cop at this
      rw [this, if_neg (by omega), e1]
      show cop l i = _
      rw [show l.length - 1 - (l.length - 1 - i) = i by omega]
     ·
      rw [if_neg e1, cop_set _ _ _ _ (by omega)]
      by_cases e2 : t = i
      ·
       rw [if_pos e2, if_pos (by omega)]
       have := h3 (l.length - 1 - i) (by omega)
       unfold cop at this
       rw [this, if_neg (by omega), e2]
       rfl
      ·
       rw [if_neg e2, h3 t ht]
       by_cases e3 : t < i ∨ l.length - i ≤ t
       ·
        rw [if_pos e3, if_pos (by omega)]
       ·
        rw [if_neg e3, if_neg (by omega)])
    rw [hj] at hlt ⊢
    simp (disch := omega) only [slices_Reverse_int64_int64.l0, if_pos hlt, if_pos, rd_n, Int.toNat_natCast, wp1, wm1]
    rw [show ((l.length - 1 - i : Nat) : Int) - 1 = (l.length : Int) - 1 - ((i + 1 : Nat) : Int) by omega]
    exact hi
   ·
    simp only [slices_Reverse_int64_int64.l0, if_neg hlt]
    refine Ev_to (Ev.now _) (cop_ext (by simpa using h1) fun t ht => ?_)
    rw [h3 t (by omega), cop_reverse l t (by omega)]
    by_cases e3 : t < i ∨ l.length - i ≤ t
    ·
     rw [if_pos e3]
    ·
     rw [if_neg e3, show l.length - 1 - t = t by omega]
 have h := loop l.length 0 l rfl (by omega) (fun t ht => by rw [if_neg (by omega)])
 simp only [slices_Reverse_int64_int64.f, wm1 (show l.length ≤ 1000000000000 by omega)]
 simpa using h
def numsI : List (List UInt8) → Option (List Int)
 | [] => some []
 | w :: r => match Lib.parseIntB 64 w with
  | .ok v => (numsI r).map (v :: ·)
  | _ => none
theorem numsI_step {ws : List (List UInt8)} {x : List Int} {i : Nat} {w : List UInt8} {v : Int} (h : numsI ws = (numsI (ws.drop i)).map (x ++ ·)) (hw : ws[i]? = some w) (hv : Lib.parseIntB 64 w = .ok v) : numsI ws = (numsI (ws.drop (i + 1))).map ((x ++ [v]) ++ ·) := by
 have hi : i < ws.length := by
  rcases Nat.lt_or_ge i ws.length with h' | h'
  ·
   exact h'
  ·
   rw [List.getElem?_eq_none h'] at hw; cases hw
 rw [List.drop_eq_getElem_cons hi] at h
 rw [List.getElem?_eq_getElem hi] at hw
 injection hw with hw
 rw [hw, numsI, hv] at h
 rw [h]
 cases numsI (ws.drop (i + 1)) with
 | none => rfl
 | some y => simp
theorem numsI_fail {ws : List (List UInt8)} {x : List Int} {i : Nat} {w : List UInt8} (h : numsI ws = (numsI (ws.drop i)).map (x ++ ·)) (hw : ws[i]? = some w) (hv : ∀ v, Lib.parseIntB 64 w ≠ .ok v) : numsI ws = none := by
 have hi : i < ws.length := by
  rcases Nat.lt_or_ge i ws.length with h' | h'
  ·
   exact h'
  ·
   rw [List.getElem?_eq_none h'] at hw; cases hw
 rw [List.drop_eq_getElem_cons hi] at h
 rw [List.getElem?_eq_getElem hi] at hw
 injection hw with hw
 rw [hw, numsI] at h
 cases hp : Lib.parseIntB 64 w with
 | ok v => exact absurd hp (hv v)
 | _ => rw [hp] at h; exact h
theorem numsI_end {ws : List (List UInt8)} {x : List Int} (h : numsI ws = (numsI (ws.drop ws.length)).map (x ++ ·)) : numsI ws = some x := by
 rw [h, List.drop_length]
 simp [numsI]
theorem parts_len (c : UInt8) : ∀ (s : List UInt8) (w : List UInt8), w ∈ parts c s → w.length ≤ s.length
 | [], w, h => by
  simp only [parts, List.mem_singleton] at h
  subst h
  exact Nat.le_refl _
 | b :: r, w, h => by
  have ih := parts_len c r
  obtain ⟨u, us, hu⟩ := parts_form c r
  rw [hu] at ih
  rw [parts] at h
  split at h
  ·
   rw [hu] at h
   rcases List.mem_cons.1 h with rfl | h
   ·
    simp
   ·
    have := ih w h
    simp only [List.length_cons]
    omega
  ·
   rw [hu] at h
   simp only [List.headD_cons, List.tail_cons] at h
   rcases List.mem_cons.1 h with rfl | h
   ·
    have := ih u (by simp)
    simp only [List.length_cons]
    omega
   ·
    have := ih w (List.mem_cons_of_mem _ h)
    simp only [List.length_cons]
    omega
theorem parts_size (c : UInt8) : ∀ (s : List UInt8), (parts c s).length ≤ s.length + 1
 | [] => by simp [parts]
 | b :: r => by
  have ih := parts_size c r
  obtain ⟨u, us, hu⟩ := parts_form c r
  rw [hu] at ih
  rw [parts]
  split
  ·
   rw [hu]
   simp only [List.length_cons] at ih ⊢
   omega
  ·
   rw [hu]
   simp only [List.headD_cons, List.tail_cons, List.length_cons] at ih ⊢
   omega
end Go.Proofs.YtmadpicanmjhhaaGreatDoor.H
