/- Joined texts of a claim: the printed functions and what is proved of them. -/
import Derived.Test.YtiffnigjblbakaaYHx0
import Derived.Test.YtiffnigjblbakaaMa4
import Derived.Test.YtiffnigjblbakaaMa5
import Derived.Test.YtiffnigjblbakaaMa6
namespace Go.Proofs.Ytiffnigjblbakaa.H
open Go.RowKit Go.Proofs.YtiffnigjblbakaaW.PrintWords Go.Proofs.YtiffnigjblbakaaW.PrintLast Go.Proofs.YtiffnigjblbakaaW.PrintMore
attribute [local go_sem] max2_int min2_int max_two min_two max_three min_three max_four min_four   -- for this text's walks alone
set_option linter.unusedVariables false
set_option linter.unusedSimpArgs false
/-! ### spec_FindJacobi: function 41 -/
mutual
def spec_FindJacobi.j0 : Nat → Int → List Int → List Int → Int → Int → Int → Bool → Option (Int × List Int × List Int × Int)
  | 0, _, _, _, _, _, _, _ => none
  | k + 1, x0, x1, x2, x3, x10, x11, x53 => if x53 = true then (spec_FindJacobi.j1 k x0 x1 x2 x3 2 x11) else (spec_FindJacobi.j1 k x0 x1 x2 x3 x10 x11)
def spec_FindJacobi.j1 : Nat → Int → List Int → List Int → Int → Int → Int → Option (Int × List Int × List Int × Int)
  | 0, _, _, _, _, _, _ => none
  | k + 1, x0, x1, x2, x3, x10, x11 => if x10 = 0 then (if 0 ≤ x11 then (if (x11 : Int).toNat ≤ 35184372088832 then ((some (List.replicate (x11 : Int).toNat 0 : List Int)).bind fun y1099 => (if 0 < (y1099.length : Int) then (spec_FindJacobi.l0 k x0 x1 x2 (wrap64 (x11 - 1)) x0 (List.replicate (x11 : Int).toNat 0) (y1099.set (0 : Int).toNat x3)) else (none))) else (none)) else (none)) else (some (0, ([] : List Int), ([] : List Int), x10))
def spec_FindJacobi.l0 : Nat → Int → List Int → List Int → Int → Int → List Int → List Int → Option (Int × List Int × List Int × Int)
  | 0, _, _, _, _, _, _, _ => none
  | k + 1, x0, x1, x2, x13, x1103000, x1103001, x1103002 => if x13 ≥ 0 then ((spec_l01Divide.f k x0 x1 x2).bind fun bt1104 => (if (bt1104.1.length : Int) > 0 then (if 0 < (bt1104.1.length : Int) then ((spec_l01Mod.f x0 (wrap64 (-(rd bt1104.1 0)))).bind fun t1111 => (if 0 ≤ x13 then (if x13 < (x1103001.length : Int) then (spec_FindJacobi.j3 k x0 x2 x13 bt1104.2 x1103000 (x1103001.set (x13 : Int).toNat t1111) x1103002) else (none)) else (none))) else (none)) else (spec_FindJacobi.j3 k x0 x2 x13 bt1104.2 x1103000 x1103001 x1103002))) else (some (x1103000, x1103001, x1103002, 0))
def spec_FindJacobi.j3 : Nat → Int → List Int → Int → List Int → Int → List Int → List Int → Option (Int × List Int × List Int × Int)
  | 0, _, _, _, _, _, _, _ => none
  | k + 1, x0, x2, x13, x15, x1103000, x1103001, x1103002 => if x13 = 0 then (some (x1103000, x1103001, x1103002, 0)) else (if (x15.length : Int) = x13 then (if 0 ≤ (wrap64 (x13 - 1)) then (if (wrap64 (x13 - 1)) < (x15.length : Int) then ((spec_l01Mod.f x0 (wrap64 (-(rd x15 (wrap64 (x13 - 1)))))).bind fun t1114 => (if 0 ≤ x13 then (if x13 < (x1103002.length : Int) then ((spec_l01Monic.f k x0 x15).bind fun t1116 => (spec_FindJacobi.l0 k x0 x2 t1116 (wrap64 (x13 - 1)) x1103000 x1103001 (x1103002.set (x13 : Int).toNat t1114))) else (none)) else (none))) else (none)) else (none)) else (some (0, ([] : List Int), ([] : List Int), 5)))
end
def spec_FindJacobi.f (k : Nat) (a0 : Int) (l1 : List Int) (l2 : List Int) (a3 : Int) : Option (Int × List Int × List Int × Int) := (spec_l01Code.f k a0 (([l1, l2] : List (List Int)))).bind fun t1092 => (if t1092 = 0 then (if (wrap64 ((l1.length : Int) - 1)) < 1 then (spec_FindJacobi.j0 k a0 l1 l2 a3 t1092 (wrap64 ((l1.length : Int) - 1)) true) else (if (wrap64 ((l1.length : Int) - 1)) > 12 then (spec_FindJacobi.j0 k a0 l1 l2 a3 t1092 (wrap64 ((l1.length : Int) - 1)) true) else ((spec_l03Monic.f l1 (wrap64 ((l1.length : Int) - 1))).bind fun t1093 => (if t1093 = true then ((spec_l03Monic.f l2 (wrap64 ((wrap64 ((l1.length : Int) - 1)) - 1))).bind fun t1094 => (if t1094 = true then ((spec_l01In.f a3 1 (wrap64 (a0 - 1))).bind fun t1095 => (spec_FindJacobi.j0 k a0 l1 l2 a3 t1092 (wrap64 ((l1.length : Int) - 1)) (!t1095))) else (spec_FindJacobi.j0 k a0 l1 l2 a3 t1092 (wrap64 ((l1.length : Int) - 1)) true))) else (spec_FindJacobi.j0 k a0 l1 l2 a3 t1092 (wrap64 ((l1.length : Int) - 1)) true))))) else (spec_FindJacobi.j0 k a0 l1 l2 a3 t1092 (wrap64 ((l1.length : Int) - 1)) false))
def spec_FindJacobi.T6 : Bool × List (List Nat × List Nat) := (true, [([], []), ([], []), ([1, 1], [1]), ([], []), ([3, 3], [3]), ([0, 2, 4], [0, 2, 4]), ([], []), ([6, 5, 0, 1, 2, 3, 4, 5, 6], [5, 6])])
def spec_FindJacobi.B6 : List Nat := [0, 0, 2, 0, 8, 31, 0, 127]
theorem spec_FindJacobi.tab6 : rtab .any (opsOf Try.f41 6) = spec_FindJacobi.T6 := by kernel_rfl
theorem spec_FindJacobi.bits6 : waitsOk spec_FindJacobi.T6.2 spec_FindJacobi.B6 = true := by kernel_rfl
def spec_FindJacobi.T13 : Bool × List (List Nat × List Nat) := (true, [([], []), ([0], [0]), ([], []), ([], []), ([], []), ([4], [4]), ([5], [5]), ([6], [6]), ([3, 7], [3, 7]), ([1, 2, 0, 1, 2, 3, 4, 5, 6, 7, 8], [1, 2]), ([9, 8, 8, 0, 1, 2, 3, 4, 5, 6, 7, 8], [8, 9])])
def spec_FindJacobi.B13 : List Nat := [0, 1, 0, 0, 0, 16, 48, 112, 248, 511, 1023]
theorem spec_FindJacobi.tab13 : rtab .any (opsOf Try.f41 13) = spec_FindJacobi.T13 := by kernel_rfl
theorem spec_FindJacobi.bits13 : waitsOk spec_FindJacobi.T13.2 spec_FindJacobi.B13 = true := by kernel_rfl
def spec_FindJacobi.T17 : Bool × List (List Nat × List Nat) := (true, [([], []), ([0], [0]), ([], []), ([], []), ([], []), ([], []), ([5], [5]), ([4, 6], [4, 6]), ([7], [7]), ([8], [8]), ([3, 9], [3, 9]), ([1, 2, 0, 1, 2, 3, 4, 5, 6, 7, 8, 9, 10], [1, 2]), ([11, 10, 10, 0, 1, 2, 3, 4, 5, 6, 7, 8, 9, 10], [10, 11])])
def spec_FindJacobi.B17 : List Nat := [0, 1, 0, 0, 0, 0, 32, 112, 240, 496, 1016, 2047, 4095]
theorem spec_FindJacobi.tab17 : rtab .any (opsOf Try.f41 17) = spec_FindJacobi.T17 := by kernel_rfl
theorem spec_FindJacobi.bits17 : waitsOk spec_FindJacobi.T17.2 spec_FindJacobi.B17 = true := by kernel_rfl
set_option maxHeartbeats 8000000 in
set_option maxRecDepth 100000 in
theorem spec_FindJacobi.calls (k : Nat) (a0 : Int) (P1_ : Nat → Prop) (A1 : Option Addr) (c1 : Nat) (l1 : List Int) (P2_ : Nat → Prop) (A2 : Option Addr) (c2 : Nat) (l2 : List Int) (a3 : Int) (r1 : Int) (r2 : List Int) (r3 : List Int) (r4 : Int) (w : World) (hs1 : Kd.V (Kd.int .i64) 2 w w.heap.size (fun k_ => P1_ k_) (.slice A1 l1.length c1) l1) (hs2 : Kd.V (Kd.int .i64) 2 w w.heap.size (fun k_ => P2_ k_) (.slice A2 l2.length c2) l2) (h : spec_FindJacobi.f k a0 l1 l2 a3 = some (r1, r2, r3, r4)) :
    Calls Try.prog 41 #[.int .i64 a0, .slice A1 l1.length c1, .slice A2 l2.length c2, .int .i64 a3] w fun e w' => ∃ v1_ v2_ : Value, e = .returned (.tuple #[.agg #[.int .i64 r1, v1_, v2_], .int .i64 r4]) ∧ Kd.R (Kd.int .i64) 2 w' w.heap.size (fun k_ => (w.heap.size ≤ k_) ∧ some k_ ≠ (v2_ : Value).ownBlock) v1_ r2 ∧ Kd.R (Kd.int .i64) 2 w' w.heap.size (fun k_ => (w.heap.size ≤ k_) ∧ some k_ ≠ (v1_ : Value).ownBlock) v2_ r3 ∧ Below w.heap.size w w' := by
  have hu52 := Try.underlying52
  have HO1 := Aside0.mk (show Kd.V (Kd.int .i64) 2 w w.heap.size (fun k_ => ((P1_ k_ ∨ P2_ k_) ∨ w.heap.size ≤ k_)) (.slice A1 l1.length c1) l1 from Kd.V_mono hs1 (fun k_ hk => .inl (.inl hk)))
  have HO2 := Aside0.mk (show Kd.V (Kd.int .i64) 2 w w.heap.size (fun k_ => ((P1_ k_ ∨ P2_ k_) ∨ w.heap.size ≤ k_)) (.slice A2 l2.length c2) l2 from Kd.V_mono hs2 (fun k_ hk => .inl (.inr hk)))
  have HB := Aside0.mk (Below.refl w.heap.size w)
  have H : ((spec_l01Code.f k a0 (([l1, l2] : List (List Int)))).bind fun t1092 => (if t1092 = 0 then (if (wrap64 ((l1.length : Int) - 1)) < 1 then (spec_FindJacobi.j0 k a0 l1 l2 a3 t1092 (wrap64 ((l1.length : Int) - 1)) true) else (if (wrap64 ((l1.length : Int) - 1)) > 12 then (spec_FindJacobi.j0 k a0 l1 l2 a3 t1092 (wrap64 ((l1.length : Int) - 1)) true) else ((spec_l03Monic.f l1 (wrap64 ((l1.length : Int) - 1))).bind fun t1093 => (if t1093 = true then ((spec_l03Monic.f l2 (wrap64 ((wrap64 ((l1.length : Int) - 1)) - 1))).bind fun t1094 => (if t1094 = true then ((spec_l01In.f a3 1 (wrap64 (a0 - 1))).bind fun t1095 => (spec_FindJacobi.j0 k a0 l1 l2 a3 t1092 (wrap64 ((l1.length : Int) - 1)) (!t1095))) else (spec_FindJacobi.j0 k a0 l1 l2 a3 t1092 (wrap64 ((l1.length : Int) - 1)) true))) else (spec_FindJacobi.j0 k a0 l1 l2 a3 t1092 (wrap64 ((l1.length : Int) - 1)) true))))) else (spec_FindJacobi.j0 k a0 l1 l2 a3 t1092 (wrap64 ((l1.length : Int) - 1)) false))) = some (r1, r2, r3, r4) := h
  clear h
  obtain ⟨y1089, hy1089⟩ : ∃ y_ : List (List Int), y_ = (([l1, l2] : List (List Int))) := ⟨_, rfl⟩
  replace H : ((spec_l01Code.f k a0 y1089).bind fun t1092 => (if t1092 = 0 then (if (wrap64 ((l1.length : Int) - 1)) < 1 then (spec_FindJacobi.j0 k a0 l1 l2 a3 t1092 (wrap64 ((l1.length : Int) - 1)) true) else (if (wrap64 ((l1.length : Int) - 1)) > 12 then (spec_FindJacobi.j0 k a0 l1 l2 a3 t1092 (wrap64 ((l1.length : Int) - 1)) true) else ((spec_l03Monic.f l1 (wrap64 ((l1.length : Int) - 1))).bind fun t1093 => (if t1093 = true then ((spec_l03Monic.f l2 (wrap64 ((wrap64 ((l1.length : Int) - 1)) - 1))).bind fun t1094 => (if t1094 = true then ((spec_l01In.f a3 1 (wrap64 (a0 - 1))).bind fun t1095 => (spec_FindJacobi.j0 k a0 l1 l2 a3 t1092 (wrap64 ((l1.length : Int) - 1)) (!t1095))) else (spec_FindJacobi.j0 k a0 l1 l2 a3 t1092 (wrap64 ((l1.length : Int) - 1)) true))) else (spec_FindJacobi.j0 k a0 l1 l2 a3 t1092 (wrap64 ((l1.length : Int) - 1)) true))))) else (spec_FindJacobi.j0 k a0 l1 l2 a3 t1092 (wrap64 ((l1.length : Int) - 1)) false))) = some (r1, r2, r3, r4) := by first | (rw [hy1089]; with_reducible exact H) | (have H2_ := (Option.bind_some _ _).symm.trans H; rw [hy1089]; with_reducible exact H2_) | (have H2_ := (Option.bind_some _ _).symm.trans H; with_reducible exact H2_) | with_reducible exact H | (rw [hy1089]; exact H) | exact H
  have Ny1089 := Aside0.mk hy1089
  clear hy1089
  replace H := Option.bind_eq_some_iff.mp H
  obtain ⟨t1092, A50, H⟩ := H
  have A5 := Aside0.mk A50
  clear A50
  have HC6 := Aside0.mk H
  clear H
  go_enter Try.func41, Try.ntmps41
  go_upto_region 2 with (first | ((with_reducible refine gate_dst (N := 8) rfl ?_); refine box_event ?hg (N := 8) ?hd (cs := #[.int .i64 0, .slice none 0 0, .slice none 0 0]) (t := 52) ?hr ?_; (case hd => rfl); (case hg => rfl); (case hr => first | (go_simp; done) | (go_simp; rfl)); intro gb1088 hg w7 hbox hb; have n0_ := Aside0.mk (Kd.V_below (Kd.V_elderB (by (with_reducible repeat (first | apply Kd.V_alloc | apply Kd.V_drewN | apply Kd.V_drew)); exact HO1.out) gb1088 (Nat.le_of_eq hg.symm)) hb); have n1_ := Aside0.mk (Kd.V_below (Kd.V_elderB (by (with_reducible repeat (first | apply Kd.V_alloc | apply Kd.V_drewN | apply Kd.V_drew)); exact HO2.out) gb1088 (Nat.le_of_eq hg.symm)) hb); have n2_ := Aside0.mk (below_step (bs HB) hb); have n3_ := Aside0.mk (hbox); have n4_ := Aside0.mk ((by rw [hg]; exact (below_size (bs HB)) : w.heap.size ≤ gb1088)); have n5_ := Aside0.mk ((by rw [hg]; exact (below_size (bs HB)) : w.heap.size ≤ gb1088)); clear HO1; clear HO2; clear HB; have HO1 := n0_; have HO2 := n1_; have HB := n2_; have BK1088 := n3_; have GW1088 := n4_; have GE1088 := n5_; clear n0_ n1_ n2_ n3_ n4_ n5_; clear hb hbox hg) | ((with_reducible refine gate_dst (N := 19) rfl ?_); refine Kd.N_lit (Kd.slice 2 (Kd.int .i64)) _ 22 ?hg (N' := 19) ?hd (xs := ([l1, l2] : List (List Int))) (inner := [.slice A1 l1.length c1, .slice A2 l2.length c2]) (ok := (fun k_ => ((P1_ k_ ∨ P2_ k_) ∨ w.heap.size ≤ k_) ∧ k_ ≠ gb1088)) (okp := (fun k_ => ((P1_ k_ ∨ P2_ k_) ∨ w.heap.size ≤ k_) ∧ k_ ≠ gb1088)) ?hr ?hp (fun _ hk => hk) ((show ∀ k_, w7.heap.size ≤ k_ → (fun k_ => ((P1_ k_ ∨ P2_ k_) ∨ w.heap.size ≤ k_) ∧ k_ ≠ gb1088) k_ from fun k_ hk => ⟨(.inr (Nat.le_trans (below_size (by repeat (first | (with_reducible first | exact HB.out | apply below_alloc | apply pw_below_drewN | apply below_drew1 | refine below_set ?_ GE1088.out) | exact HB.out))) hk)), Kd.freshB (g := gb1088) (o := .cells #[.int .i64 0, .slice none 0 0, .slice none 0 0] 52 (0, 0)) (by (with_reducible repeat (first | refine blk_drewN ?_ _ | refine blk_drew ?_ | refine blk_alloc ?_ _)); exact BK1088.out) k_ hk⟩) _ (Nat.le_refl _)) (Below.refl _ _) (Nat.le_refl _) (by simp) ?_; (case hd => rfl); (case hg => rfl); (case hr => first | (go_simp; done) | (go_simp; rfl)); (case hp => exact (Reps.one (show Kd.FK (Kd.slice 2 (Kd.int .i64)) _ _ l1 [.slice A1 l1.length c1] from (Kd.FK_slice_mk (Kd.V_reads' (Kd.V_mono (ok' := (fun k_ => ((P1_ k_ ∨ P2_ k_) ∨ w.heap.size ≤ k_) ∧ k_ ≠ gb1088)) (HO1.out) (fun k_ hk => ⟨hk.1, hk.2⟩))).2.1 (Kd.V_F (Kd.V_mono (ok' := (fun k_ => ((P1_ k_ ∨ P2_ k_) ∨ w.heap.size ≤ k_) ∧ k_ ≠ gb1088)) (HO1.out) (fun k_ hk => ⟨hk.1, hk.2⟩))))) (Reps.one (show Kd.FK (Kd.slice 2 (Kd.int .i64)) _ _ l2 [.slice A2 l2.length c2] from (Kd.FK_slice_mk (Kd.V_reads' (Kd.V_mono (ok' := (fun k_ => ((P1_ k_ ∨ P2_ k_) ∨ w.heap.size ≤ k_) ∧ k_ ≠ gb1088)) (HO2.out) (fun k_ hk => ⟨hk.1, hk.2⟩))).2.1 (Kd.V_F (Kd.V_mono (ok' := (fun k_ => ((P1_ k_ ∨ P2_ k_) ∨ w.heap.size ≤ k_) ∧ k_ ≠ gb1088)) (HO2.out) (fun k_ hk => ⟨hk.1, hk.2⟩))))) (Reps.none _ _)))); intro v1090 w8 ho9 hb hg_ hnew_; clear hg_ hnew_; (first | rw [← Ny1089.out] at ho9 | (simp only [Int.reduceToNat] at ho9; rw [← Ny1089.out] at ho9)); have n0_ := Aside0.mk (Kd.V_elder' (by (with_reducible repeat (first | apply Kd.V_alloc | apply Kd.V_drewN | apply Kd.V_drew)); exact HO1.out) (Kd.N_base ho9) hb); have n1_ := Aside0.mk (Kd.V_elder' (by (with_reducible repeat (first | apply Kd.V_alloc | apply Kd.V_drewN | apply Kd.V_drew)); exact HO2.out) (Kd.N_base ho9) hb); have n2_ := Aside0.mk (Kd.N_lower ho9 (below_size (by repeat (first | (with_reducible first | exact HB.out | apply below_alloc | apply pw_below_drewN | apply below_drew1 | refine below_set ?_ GE1088.out) | exact HB.out)))); have n3_ := Aside0.mk (blk_below (g := gb1088) (o := .cells #[.int .i64 0, .slice none 0 0, .slice none 0 0] 52 (0, 0)) (by (with_reducible repeat (first | refine blk_drewN ?_ _ | refine blk_drew ?_ | refine blk_alloc ?_ _)); exact BK1088.out) hb); have n4_ := Aside0.mk (below_step (by repeat (first | (with_reducible first | exact HB.out | apply below_alloc | apply pw_below_drewN | apply below_drew1 | refine below_set ?_ GE1088.out) | exact HB.out)) hb); clear HO1; clear HO2; clear BK1088; clear HB; have HO1 := n0_; have HO2 := n1_; have HO1091 := n2_; have BK1088 := n3_; have HB := n4_; clear n0_ n1_ n2_ n3_ n4_; clear hb ho9; obtain ⟨Ao10, co10, eo10⟩ := Kd.N_slice HO1091.out; subst eo10) | ((with_reducible refine gate_callee (f := 65) rfl ?_); refine goesM_ (some 20) rfl rfl Try.func65 #[.int .i64 a0, .slice Ao10 y1089.length co10] rfl ?_; (with_reducible refine (spec_l01Code.calls k a0 _ _ y1089 t1092 _ ?side1 ?side2 A5.out).mono ?_); (case side1 => exact cs ((Kd.N_reads' HO1091.out).2.2)); (case side2 => exact (Kd.N_reads' HO1091.out).2.1); rintro e w' ⟨rfl, ⟨nd, rfl⟩⟩; refine ⟨_, rfl, ?_⟩))
  (try simp only [Act.put, List.setIfInBounds_toArray, List.set_cons_zero, List.set_cons_succ])
  go_cut [53] (fun v53 wc => ∃ (kq : Nat) (x53_5 : Bool), v53 = .bool x53_5 ∧ Aside0 (spec_FindJacobi.j0 kq a0 l1 l2 a3 t1092 (wrap64 ((l1.length : Int) - 1)) x53_5 = some (r1, r2, r3, r4)) ∧ Aside0 (kq ≤ k) ∧ Aside0 (Kd.V (Kd.int .i64) 2 wc w.heap.size (fun k_ => ((P1_ k_ ∨ P2_ k_) ∨ w.heap.size ≤ k_) ∧ k_ ≠ gb1088) (.slice A1 l1.length c1) l1) ∧ Aside0 (Kd.V (Kd.int .i64) 2 wc w.heap.size (fun k_ => ((P1_ k_ ∨ P2_ k_) ∨ w.heap.size ≤ k_) ∧ k_ ≠ gb1088) (.slice A2 l2.length c2) l2) ∧ Aside0 (wc.heap[gb1088]? = some (.cells #[.int .i64 0, (.slice none 0 0), (.slice none 0 0)] 52 (0, 0))) ∧ Aside0 (Below w.heap.size w wc))
  case first =>
    have H := HC6.out
    clear HC6
    by_cases c11 : t1092 = 0
    · rw [if_pos c11] at H
      have c11b0 : (t1092 == 0) = true := beq_iff_eq.mpr c11
      have c11b1 : (t1092 != 0) = false := bne_eq_false_iff_eq.mpr c11
      clear c11
      (first | rw [c11b0] | rw [c11b1] | (simp only [i64_w, i32_w]; rw [c11b0]) | skip)
      by_cases c12 : (wrap64 ((l1.length : Int) - 1)) < 1
      · rw [if_pos c12] at H
        have c12b0 : decide ((wrap64 ((l1.length : Int) - 1)) < 1) = true := decide_eq_true c12
        clear c12
        have H' := Aside0.mk H
        clear H
        go_wp2
        go_meet
        case rel => exact ⟨_, (true), ea_, H', ⟨by first | omega | exact Nat.le_refl _⟩, ⟨by (with_reducible repeat (first | apply Kd.V_alloc | apply Kd.V_drewN | apply Kd.V_drew)); exact Kd.V_mono HO1.out (fun _ hk => ⟨hk.1.1, hk.1.2⟩)⟩, ⟨by (with_reducible repeat (first | apply Kd.V_alloc | apply Kd.V_drewN | apply Kd.V_drew)); exact Kd.V_mono HO2.out (fun _ hk => ⟨hk.1.1, hk.1.2⟩)⟩, ⟨by (with_reducible repeat (first | refine blk_drewN ?_ _ | refine blk_drew ?_ | refine blk_alloc ?_ _)); exact BK1088.out⟩, ⟨by repeat (first | (with_reducible first | exact HB.out | apply below_alloc | apply pw_below_drewN | apply below_drew1 | refine below_set ?_ GE1088.out) | exact HB.out)⟩⟩
      · rw [if_neg c12] at H
        have c12b0 : decide ((wrap64 ((l1.length : Int) - 1)) < 1) = false := decide_eq_false c12
        clear c12
        by_cases c13 : (wrap64 ((l1.length : Int) - 1)) > 12
        · rw [if_pos c13] at H
          have c13b0 : decide (12 < (wrap64 ((l1.length : Int) - 1))) = true := decide_eq_true c13
          clear c13
          have H' := Aside0.mk H
          clear H
          go_wp2
          go_meet
          case rel => exact ⟨_, (true), ea_, H', ⟨by first | omega | exact Nat.le_refl _⟩, ⟨by (with_reducible repeat (first | apply Kd.V_alloc | apply Kd.V_drewN | apply Kd.V_drew)); exact Kd.V_mono HO1.out (fun _ hk => ⟨hk.1.1, hk.1.2⟩)⟩, ⟨by (with_reducible repeat (first | apply Kd.V_alloc | apply Kd.V_drewN | apply Kd.V_drew)); exact Kd.V_mono HO2.out (fun _ hk => ⟨hk.1.1, hk.1.2⟩)⟩, ⟨by (with_reducible repeat (first | refine blk_drewN ?_ _ | refine blk_drew ?_ | refine blk_alloc ?_ _)); exact BK1088.out⟩, ⟨by repeat (first | (with_reducible first | exact HB.out | apply below_alloc | apply pw_below_drewN | apply below_drew1 | refine below_set ?_ GE1088.out) | exact HB.out)⟩⟩
        · rw [if_neg c13] at H
          have c13b0 : decide (12 < (wrap64 ((l1.length : Int) - 1))) = false := decide_eq_false c13
          clear c13
          replace H := Option.bind_eq_some_iff.mp H
          obtain ⟨t1093, A140, H⟩ := H
          have A14 := Aside0.mk A140
          clear A140
          by_cases c15 : t1093 = true
          · subst c15
            have H1 : ((spec_l03Monic.f l2 (wrap64 ((wrap64 ((l1.length : Int) - 1)) - 1))).bind fun t1094 => (if t1094 = true then ((spec_l01In.f a3 1 (wrap64 (a0 - 1))).bind fun t1095 => (spec_FindJacobi.j0 k a0 l1 l2 a3 t1092 (wrap64 ((l1.length : Int) - 1)) (!t1095))) else (spec_FindJacobi.j0 k a0 l1 l2 a3 t1092 (wrap64 ((l1.length : Int) - 1)) true))) = some (r1, r2, r3, r4) := by rw [if_pos rfl] at H; exact H
            clear H
            have H := H1
            clear H1
            replace H := Option.bind_eq_some_iff.mp H
            obtain ⟨t1094, A160, H⟩ := H
            have A16 := Aside0.mk A160
            clear A160
            by_cases c17 : t1094 = true
            · subst c17
              have H1 : ((spec_l01In.f a3 1 (wrap64 (a0 - 1))).bind fun t1095 => (spec_FindJacobi.j0 k a0 l1 l2 a3 t1092 (wrap64 ((l1.length : Int) - 1)) (!t1095))) = some (r1, r2, r3, r4) := by rw [if_pos rfl] at H; exact H
              clear H
              have H := H1
              clear H1
              replace H := Option.bind_eq_some_iff.mp H
              obtain ⟨t1095, A180, H⟩ := H
              have A18 := Aside0.mk A180
              clear A180
              have H' := Aside0.mk H
              clear H
              go_wp2_with (first | (go_at_call 92; (with_reducible refine (spec_l03Monic.calls _ _ l1 (wrap64 ((l1.length : Int) - 1)) true _ ?side1 ?side2 A14.out).mono ?_); (case side1 => exact cs ((Kd.V_reads' HO1.out).2.2)); (case side2 => exact (Kd.V_reads' HO1.out).2.1); rintro e w' ⟨rfl, ⟨nd, rfl⟩⟩) | (go_at_call 92; (with_reducible refine (spec_l03Monic.calls _ _ l2 (wrap64 ((wrap64 ((l1.length : Int) - 1)) - 1)) true _ ?side1 ?side2 A16.out).mono ?_); (case side1 => exact cs ((Kd.V_reads' HO2.out).2.2)); (case side2 => exact (Kd.V_reads' HO2.out).2.1); rintro e w' ⟨rfl, ⟨nd, rfl⟩⟩) | (go_at_call 55; (with_reducible refine (spec_l01In.calls a3 1 (wrap64 (a0 - 1)) t1095 _ A18.out).mono ?_); rintro e w' ⟨rfl, ⟨nd, rfl⟩⟩))
              go_meet
              case rel => exact ⟨_, (!t1095), ea_, H', ⟨by first | omega | exact Nat.le_refl _⟩, ⟨by (with_reducible repeat (first | apply Kd.V_alloc | apply Kd.V_drewN | apply Kd.V_drew)); exact Kd.V_mono HO1.out (fun _ hk => ⟨hk.1.1, hk.1.2⟩)⟩, ⟨by (with_reducible repeat (first | apply Kd.V_alloc | apply Kd.V_drewN | apply Kd.V_drew)); exact Kd.V_mono HO2.out (fun _ hk => ⟨hk.1.1, hk.1.2⟩)⟩, ⟨by (with_reducible repeat (first | refine blk_drewN ?_ _ | refine blk_drew ?_ | refine blk_alloc ?_ _)); exact BK1088.out⟩, ⟨by repeat (first | (with_reducible first | exact HB.out | apply below_alloc | apply pw_below_drewN | apply below_drew1 | refine below_set ?_ GE1088.out) | exact HB.out)⟩⟩
            · replace c17 := Bool.eq_false_iff.mpr c17
              subst c17
              have H1 : (spec_FindJacobi.j0 k a0 l1 l2 a3 t1092 (wrap64 ((l1.length : Int) - 1)) true) = some (r1, r2, r3, r4) := by rw [if_neg (show ¬ (false = true) by decide)] at H; exact H
              clear H
              have H := H1
              clear H1
              have H' := Aside0.mk H
              clear H
              go_wp2_with (first | (go_at_call 92; (with_reducible refine (spec_l03Monic.calls _ _ l1 (wrap64 ((l1.length : Int) - 1)) true _ ?side1 ?side2 A14.out).mono ?_); (case side1 => exact cs ((Kd.V_reads' HO1.out).2.2)); (case side2 => exact (Kd.V_reads' HO1.out).2.1); rintro e w' ⟨rfl, ⟨nd, rfl⟩⟩) | (go_at_call 92; (with_reducible refine (spec_l03Monic.calls _ _ l2 (wrap64 ((wrap64 ((l1.length : Int) - 1)) - 1)) false _ ?side1 ?side2 A16.out).mono ?_); (case side1 => exact cs ((Kd.V_reads' HO2.out).2.2)); (case side2 => exact (Kd.V_reads' HO2.out).2.1); rintro e w' ⟨rfl, ⟨nd, rfl⟩⟩))
              go_meet
              case rel => exact ⟨_, (true), ea_, H', ⟨by first | omega | exact Nat.le_refl _⟩, ⟨by (with_reducible repeat (first | apply Kd.V_alloc | apply Kd.V_drewN | apply Kd.V_drew)); exact Kd.V_mono HO1.out (fun _ hk => ⟨hk.1.1, hk.1.2⟩)⟩, ⟨by (with_reducible repeat (first | apply Kd.V_alloc | apply Kd.V_drewN | apply Kd.V_drew)); exact Kd.V_mono HO2.out (fun _ hk => ⟨hk.1.1, hk.1.2⟩)⟩, ⟨by (with_reducible repeat (first | refine blk_drewN ?_ _ | refine blk_drew ?_ | refine blk_alloc ?_ _)); exact BK1088.out⟩, ⟨by repeat (first | (with_reducible first | exact HB.out | apply below_alloc | apply pw_below_drewN | apply below_drew1 | refine below_set ?_ GE1088.out) | exact HB.out)⟩⟩
          · replace c15 := Bool.eq_false_iff.mpr c15
            subst c15
            have H1 : (spec_FindJacobi.j0 k a0 l1 l2 a3 t1092 (wrap64 ((l1.length : Int) - 1)) true) = some (r1, r2, r3, r4) := by rw [if_neg (show ¬ (false = true) by decide)] at H; exact H
            clear H
            have H := H1
            clear H1
            have H' := Aside0.mk H
            clear H
            go_wp2_with (first | (go_at_call 92; (with_reducible refine (spec_l03Monic.calls _ _ l1 (wrap64 ((l1.length : Int) - 1)) false _ ?side1 ?side2 A14.out).mono ?_); (case side1 => exact cs ((Kd.V_reads' HO1.out).2.2)); (case side2 => exact (Kd.V_reads' HO1.out).2.1); rintro e w' ⟨rfl, ⟨nd, rfl⟩⟩))
            go_meet
            case rel => exact ⟨_, (true), ea_, H', ⟨by first | omega | exact Nat.le_refl _⟩, ⟨by (with_reducible repeat (first | apply Kd.V_alloc | apply Kd.V_drewN | apply Kd.V_drew)); exact Kd.V_mono HO1.out (fun _ hk => ⟨hk.1.1, hk.1.2⟩)⟩, ⟨by (with_reducible repeat (first | apply Kd.V_alloc | apply Kd.V_drewN | apply Kd.V_drew)); exact Kd.V_mono HO2.out (fun _ hk => ⟨hk.1.1, hk.1.2⟩)⟩, ⟨by (with_reducible repeat (first | refine blk_drewN ?_ _ | refine blk_drew ?_ | refine blk_alloc ?_ _)); exact BK1088.out⟩, ⟨by repeat (first | (with_reducible first | exact HB.out | apply below_alloc | apply pw_below_drewN | apply below_drew1 | refine below_set ?_ GE1088.out) | exact HB.out)⟩⟩
    · rw [if_neg c11] at H
      have c11b0 : (t1092 == 0) = false := beq_eq_false_iff_ne.mpr c11
      have c11b1 : (t1092 != 0) = true := bne_iff_ne.mpr c11
      (first | rw [c11b0] | rw [c11b1] | (simp only [i64_w, i32_w]; rw [c11b0]) | skip)
      have H' := Aside0.mk H
      clear H
      go_wp2
      go_meet
      case rel => exact ⟨_, (false), ea_, H', ⟨by first | omega | exact Nat.le_refl _⟩, ⟨by (with_reducible repeat (first | apply Kd.V_alloc | apply Kd.V_drewN | apply Kd.V_drew)); exact Kd.V_mono HO1.out (fun _ hk => ⟨hk.1.1, hk.1.2⟩)⟩, ⟨by (with_reducible repeat (first | apply Kd.V_alloc | apply Kd.V_drewN | apply Kd.V_drew)); exact Kd.V_mono HO2.out (fun _ hk => ⟨hk.1.1, hk.1.2⟩)⟩, ⟨by (with_reducible repeat (first | refine blk_drewN ?_ _ | refine blk_drew ?_ | refine blk_alloc ?_ _)); exact BK1088.out⟩, ⟨by repeat (first | (with_reducible first | exact HB.out | apply below_alloc | apply pw_below_drewN | apply below_drew1 | refine below_set ?_ GE1088.out) | exact HB.out)⟩⟩
  case rest =>
    clear HC6
    try clear c1
    try clear c2
    try clear p2
    try clear c4
    try clear c6
    try clear p6
    try clear c11
    try clear c11b0
    try clear c11b1
    try clear c12
    try clear c12b0
    try clear c13
    try clear c13b0
    try clear c15
    try clear c17
    obtain ⟨kq, x53_5, rfl, HA, HJ5, HO_1, HO_2, BK1088, HB⟩ := hcut
    cases kq with
    | zero => exact absurd HA.out (by simp [spec_FindJacobi.j0])
    | succ kj5 =>
      have H := HA.out
      clear HA
      simp only [spec_FindJacobi.j0] at H
      have HC19 := Aside0.mk H
      clear H
      go_upto_if 53 with (fail)
      go_cut [10] (fun v10 wc => ∃ (kq : Nat) (x10_18 : Int), v10 = .int .i64 x10_18 ∧ Aside0 (spec_FindJacobi.j1 kq a0 l1 l2 a3 x10_18 (wrap64 ((l1.length : Int) - 1)) = some (r1, r2, r3, r4)) ∧ Aside0 (kq ≤ kj5) ∧ Aside0 (Kd.V (Kd.int .i64) 2 wc w.heap.size (fun k_ => ((P1_ k_ ∨ P2_ k_) ∨ w.heap.size ≤ k_) ∧ k_ ≠ gb1088) (.slice A1 l1.length c1) l1) ∧ Aside0 (Kd.V (Kd.int .i64) 2 wc w.heap.size (fun k_ => ((P1_ k_ ∨ P2_ k_) ∨ w.heap.size ≤ k_) ∧ k_ ≠ gb1088) (.slice A2 l2.length c2) l2) ∧ Aside0 (wc.heap[gb1088]? = some (.cells #[.int .i64 0, (.slice none 0 0), (.slice none 0 0)] 52 (0, 0))) ∧ Aside0 (Below w.heap.size w wc))
      case first =>
        have H := HC19.out
        clear HC19
        by_cases c20 : x53_5 = true
        · subst c20
          have H1 : (spec_FindJacobi.j1 kj5 a0 l1 l2 a3 2 (wrap64 ((l1.length : Int) - 1))) = some (r1, r2, r3, r4) := by rw [if_pos rfl] at H; exact H
          clear H
          have H := H1
          clear H1
          have H' := Aside0.mk H
          clear H
          go_wp2
          go_meet
          case rel => exact ⟨_, (2), ea_, H', ⟨by have := HJ5.out; first | omega | exact Nat.le_refl _⟩, ⟨by (with_reducible repeat (first | apply Kd.V_alloc | apply Kd.V_drewN | apply Kd.V_drew)); exact HO_1.out⟩, ⟨by (with_reducible repeat (first | apply Kd.V_alloc | apply Kd.V_drewN | apply Kd.V_drew)); exact HO_2.out⟩, ⟨by (with_reducible repeat (first | refine blk_drewN ?_ _ | refine blk_drew ?_ | refine blk_alloc ?_ _)); exact BK1088.out⟩, ⟨by repeat (first | (with_reducible first | exact HB.out | apply below_alloc | apply pw_below_drewN | apply below_drew1 | refine below_set ?_ GE1088.out) | exact HB.out)⟩⟩
        · replace c20 := Bool.eq_false_iff.mpr c20
          subst c20
          have H1 : (spec_FindJacobi.j1 kj5 a0 l1 l2 a3 t1092 (wrap64 ((l1.length : Int) - 1))) = some (r1, r2, r3, r4) := by rw [if_neg (show ¬ (false = true) by decide)] at H; exact H
          clear H
          have H := H1
          clear H1
          have H' := Aside0.mk H
          clear H
          go_wp2
          go_meet
          case rel => exact ⟨_, (t1092), ea_, H', ⟨by have := HJ5.out; first | omega | exact Nat.le_refl _⟩, ⟨by (with_reducible repeat (first | apply Kd.V_alloc | apply Kd.V_drewN | apply Kd.V_drew)); exact HO_1.out⟩, ⟨by (with_reducible repeat (first | apply Kd.V_alloc | apply Kd.V_drewN | apply Kd.V_drew)); exact HO_2.out⟩, ⟨by (with_reducible repeat (first | refine blk_drewN ?_ _ | refine blk_drew ?_ | refine blk_alloc ?_ _)); exact BK1088.out⟩, ⟨by repeat (first | (with_reducible first | exact HB.out | apply below_alloc | apply pw_below_drewN | apply below_drew1 | refine below_set ?_ GE1088.out) | exact HB.out)⟩⟩
      case rest =>
        clear HC19
        try clear c1
        try clear c2
        try clear p2
        try clear c4
        try clear c6
        try clear p6
        try clear c11
        try clear c11b0
        try clear c11b1
        try clear c12
        try clear c12b0
        try clear c13
        try clear c13b0
        try clear c15
        try clear c17
        try clear c20
        try clear p2
        try clear p6
        obtain ⟨kq, x10_18, rfl, HA, HJ18, HO_1, HO_2, BK1088, HB⟩ := hcut
        cases kq with
        | zero => exact absurd HA.out (by simp [spec_FindJacobi.j1])
        | succ kj18 =>
          have H := HA.out
          clear HA
          simp only [spec_FindJacobi.j1] at H
          by_cases c21 : x10_18 = 0
          · rw [if_pos c21] at H
            have c21b0 : (x10_18 == 0) = true := beq_iff_eq.mpr c21
            have c21b1 : (x10_18 != 0) = false := bne_eq_false_iff_eq.mpr c21
            clear c21
            obtain ⟨ji22, hji22⟩ : ∃ j_ : Int, (wrap64 ((l1.length : Int) - 1)) = j_ := ⟨_, rfl⟩
            replace H : (if 0 ≤ (ji22) then (if ((ji22) : Int).toNat ≤ 35184372088832 then ((some (List.replicate ((ji22) : Int).toNat 0 : List Int)).bind fun y1099 => (if 0 < (y1099.length : Int) then (spec_FindJacobi.l0 kj18 a0 l1 l2 (wrap64 ((ji22) - 1)) a0 (List.replicate ((ji22) : Int).toNat 0) (y1099.set (0 : Int).toNat a3)) else (none))) else (none)) else (none)) = some (r1, r2, r3, r4) := by first | (rw [hji22] at H; exact H) | (simp only [hji22] at H ⊢; exact H)
            have hji22w : (IntKind.i64.wrap ((l1.length : Int) - 1)) = ji22 := (i64_w _).trans hji22
            by_cases c23 : 0 ≤ (ji22)
            · rw [if_pos c23] at H
              have c23b0 := eq_true c23
              have c23b1 : decide (0 ≤ (ji22)) = true := decide_eq_true c23
              clear c23
              by_cases c24 : ((ji22) : Int).toNat ≤ 35184372088832
              · rw [if_pos c24] at H
                have c24b0 := eq_true c24
                have c24b1 : decide (((ji22) : Int).toNat ≤ 35184372088832) = true := decide_eq_true c24
                clear c24
                obtain ⟨y1096, hy1096⟩ : ∃ y_ : List Int, y_ = (List.replicate ((ji22) : Int).toNat 0) := ⟨_, rfl⟩
                replace H : ((some (List.replicate ((ji22) : Int).toNat 0 : List Int)).bind fun y1099 => (if 0 < (y1099.length : Int) then (spec_FindJacobi.l0 kj18 a0 l1 l2 (wrap64 ((ji22) - 1)) a0 y1096 (y1099.set (0 : Int).toNat a3)) else (none))) = some (r1, r2, r3, r4) := by first | (rw [hy1096]; with_reducible exact H) | (have H2_ := (Option.bind_some _ _).symm.trans H; rw [hy1096]; with_reducible exact H2_) | (have H2_ := (Option.bind_some _ _).symm.trans H; with_reducible exact H2_) | with_reducible exact H | (rw [hy1096]; exact H) | exact H
                have Ny1096 := Aside0.mk hy1096
                clear hy1096
                obtain ⟨y1099, hy1099⟩ : ∃ y_ : List Int, y_ = (List.replicate ((ji22) : Int).toNat 0) := ⟨_, rfl⟩
                replace H : (if 0 < (y1099.length : Int) then (spec_FindJacobi.l0 kj18 a0 l1 l2 (wrap64 ((ji22) - 1)) a0 y1096 (y1099.set (0 : Int).toNat a3)) else (none)) = some (r1, r2, r3, r4) := by first | (rw [hy1099]; with_reducible exact H) | (have H2_ := (Option.bind_some _ _).symm.trans H; rw [hy1099]; with_reducible exact H2_) | (have H2_ := (Option.bind_some _ _).symm.trans H; with_reducible exact H2_) | with_reducible exact H | (rw [hy1099]; exact H) | exact H
                have Ny1099 := Aside0.mk hy1099
                clear hy1099
                by_cases c25 : 0 < (y1099.length : Int)
                · rw [if_pos c25] at H
                  have c25b0 : decide (0 < (y1099.length : Int)) = true := decide_eq_true c25
                  have c25b1 : decide (0 < y1099.length) = true := decide_eq_true (by omega)
                  clear c25
                  obtain ⟨y1103, hy1103⟩ : ∃ y_ : List Int, y_ = (y1099.set (0 : Int).toNat a3) := ⟨_, rfl⟩
                  replace H : (spec_FindJacobi.l0 kj18 a0 l1 l2 (wrap64 ((ji22) - 1)) a0 y1096 y1103) = some (r1, r2, r3, r4) := by first | (rw [hy1103]; with_reducible exact H) | (have H2_ := (Option.bind_some _ _).symm.trans H; rw [hy1103]; with_reducible exact H2_) | (have H2_ := (Option.bind_some _ _).symm.trans H; with_reducible exact H2_) | with_reducible exact H | (rw [hy1103]; exact H) | exact H
                  have Ny1103 := Aside0.mk hy1103
                  clear hy1103
                  have H' := Aside0.mk H
                  clear H
                  try go_wp2
                  have n0_ := Aside0.mk (Kd.V_drew HO_1.out)
                  have n1_ := Aside0.mk (Kd.V_drew HO_2.out)
                  have n2_ := Aside0.mk (blk_drew BK1088.out)
                  have n3_ := Aside0.mk (below_drew1 HB.out)
                  clear HO_1
                  clear HO_2
                  clear BK1088
                  clear HB
                  have HO_1 := n0_
                  have HO_2 := n1_
                  have BK1088 := n2_
                  have HB := n3_
                  clear n0_ n1_ n2_ n3_
                  refine start_ (n := 8) (S := fun w' => True) (ds := []) #[false, false, false, false, false, false, false, false] (by kernel_rfl) rfl rfl trivial (fun hHeld => ?_); refine with_tabW spec_FindJacobi.tab6 spec_FindJacobi.bits6 (fun HT_ HW_ => ?_)
                  generalize wc.drew = w27 at HO_1 HO_2 BK1088 HB hHeld ⊢
                  refine pure_ (i := 0) (N := some 58) (v := ?_) (a' := ?_) #[true, false, false, false, false, false, false, false] rfl rfl (any_of HT_.out (by kernel_rfl)) (fun _ _ _ h => h) (Or.inl ⟨by rfl, ?_⟩) ?_ ?_
                  rotate_left
                  · intro w'
                    go_simp
                    with_reducible rfl
                  rotate_left
                  · simp only [Act.put, List.setIfInBounds_toArray, List.set_cons_zero, List.set_cons_succ, i64_w, i32_w]
                    rfl
                  refine pure_ (i := 1) (N := some 59) (v := ?_) (a' := ?_) #[true, true, false, false, false, false, false, false] rfl rfl (any_of HT_.out (by kernel_rfl)) (fun _ _ _ h => h) (Or.inl ⟨by rfl, ?_⟩) ?_ ?_
                  rotate_left
                  · intro w'
                    go_simp
                    with_reducible rfl
                  rotate_left
                  · simp only [Act.put, List.setIfInBounds_toArray, List.set_cons_zero, List.set_cons_succ, i64_w, i32_w]
                    rfl
                  refine pure_ (i := 3) (N := some 61) (v := ?_) (a' := ?_) #[true, true, false, true, false, false, false, false] rfl rfl (any_of HT_.out (by kernel_rfl)) (fun _ _ _ h => h) (Or.inl ⟨by rfl, ?_⟩) ?_ ?_
                  rotate_left
                  · intro w'
                    go_simp
                    with_reducible rfl
                  rotate_left
                  · simp only [Act.put, List.setIfInBounds_toArray, List.set_cons_zero, List.set_cons_succ, i64_w, i32_w]
                    rfl
                  refine join_ (σ := Value × Value × Nat) 1 #[true, true, true, true, true, true, true, false] (fun s_ => [(60, s_.1), (62, s_.2.1), (12, .pointer (some ⟨s_.2.2, 0, none⟩)), (63, .agg #[.int .i64 a0, s_.1, s_.2.1])]) (fun s_ w' => (Kd.R (Kd.int .i64) 2 w' w.heap.size (fun k_ => (w.heap.size ≤ k_) ∧ some k_ ≠ (s_.2.1 : Value).ownBlock) s_.1 y1096) ∧ (Kd.R (Kd.int .i64) 2 w' w.heap.size (fun k_ => (w.heap.size ≤ k_) ∧ some k_ ≠ (s_.1 : Value).ownBlock) s_.2.1 y1099) ∧ (Kd.V (Kd.int .i64) 2 w' w.heap.size (fun k_ => ((P1_ k_ ∨ P2_ k_) ∨ w.heap.size ≤ k_) ∧ some k_ ≠ (s_.1 : Value).ownBlock ∧ some k_ ≠ (s_.2.1 : Value).ownBlock ∧ k_ ≠ gb1088 ∧ k_ ≠ s_.2.2) (.slice A1 l1.length c1) l1) ∧ (Kd.V (Kd.int .i64) 2 w' w.heap.size (fun k_ => ((P1_ k_ ∨ P2_ k_) ∨ w.heap.size ≤ k_) ∧ some k_ ≠ (s_.1 : Value).ownBlock ∧ some k_ ≠ (s_.2.1 : Value).ownBlock ∧ k_ ≠ gb1088 ∧ k_ ≠ s_.2.2) (.slice A2 l2.length c2) l2) ∧ (w'.heap[gb1088]? = some (.cells #[.int .i64 0, .slice none 0 0, .slice none 0 0] 52 (0, 0))) ∧ (w'.heap[s_.2.2]? = some (.cells #[.int .i64 0, .slice none 0 0, .slice none 0 0] 52 (0, 0))) ∧ (w.heap.size ≤ s_.2.2) ∧ (w.heap.size ≤ s_.2.2) ∧ (gb1088 ≠ s_.2.2) ∧ (s_.2.2 ≠ gb1088) ∧ (Below w.heap.size w w')) ?_ ?_
                  rotate_left
                  · intro hJ2_4_6
                    refine join_ (σ := Value × Value) 2 #[true, true, true, true, true, true, false, false] (fun s_ => [(60, s_.1), (62, s_.2), (63, .agg #[.int .i64 a0, s_.1, s_.2])]) (fun s_ w' => (Kd.R (Kd.int .i64) 2 w' w.heap.size (fun k_ => (w.heap.size ≤ k_) ∧ some k_ ≠ (s_.2 : Value).ownBlock) s_.1 y1096) ∧ (Kd.R (Kd.int .i64) 2 w' w.heap.size (fun k_ => (w.heap.size ≤ k_) ∧ some k_ ≠ (s_.1 : Value).ownBlock) s_.2 y1099) ∧ (Kd.V (Kd.int .i64) 2 w' w.heap.size (fun k_ => ((P1_ k_ ∨ P2_ k_) ∨ w.heap.size ≤ k_) ∧ some k_ ≠ (s_.1 : Value).ownBlock ∧ some k_ ≠ (s_.2 : Value).ownBlock ∧ k_ ≠ gb1088) (.slice A1 l1.length c1) l1) ∧ (Kd.V (Kd.int .i64) 2 w' w.heap.size (fun k_ => ((P1_ k_ ∨ P2_ k_) ∨ w.heap.size ≤ k_) ∧ some k_ ≠ (s_.1 : Value).ownBlock ∧ some k_ ≠ (s_.2 : Value).ownBlock ∧ k_ ≠ gb1088) (.slice A2 l2.length c2) l2) ∧ (w'.heap[gb1088]? = some (.cells #[.int .i64 0, .slice none 0 0, .slice none 0 0] 52 (0, 0))) ∧ (Below w.heap.size w w')) ?_ ?_
                    rotate_left
                    · intro hJ2_4
                      refine join_ (σ := Value × Nat) 3 #[true, true, true, true, false, false, true, false] (fun s_ => [(60, s_.1), (12, .pointer (some ⟨s_.2, 0, none⟩))]) (fun s_ w' => (Kd.R (Kd.int .i64) 2 w' w.heap.size (fun k_ => (w.heap.size ≤ k_)) s_.1 y1096) ∧ (Kd.V (Kd.int .i64) 2 w' w.heap.size (fun k_ => ((P1_ k_ ∨ P2_ k_) ∨ w.heap.size ≤ k_) ∧ some k_ ≠ (s_.1 : Value).ownBlock ∧ k_ ≠ gb1088 ∧ k_ ≠ s_.2) (.slice A1 l1.length c1) l1) ∧ (Kd.V (Kd.int .i64) 2 w' w.heap.size (fun k_ => ((P1_ k_ ∨ P2_ k_) ∨ w.heap.size ≤ k_) ∧ some k_ ≠ (s_.1 : Value).ownBlock ∧ k_ ≠ gb1088 ∧ k_ ≠ s_.2) (.slice A2 l2.length c2) l2) ∧ (w'.heap[gb1088]? = some (.cells #[.int .i64 0, .slice none 0 0, .slice none 0 0] 52 (0, 0))) ∧ (w'.heap[s_.2]? = some (.cells #[.int .i64 0, .slice none 0 0, .slice none 0 0] 52 (0, 0))) ∧ (w.heap.size ≤ s_.2) ∧ (w.heap.size ≤ s_.2) ∧ (gb1088 ≠ s_.2) ∧ (s_.2 ≠ gb1088) ∧ (Below w.heap.size w w')) ?_ ?_
                      rotate_left
                      · intro hJ2_6
                        refine join_ (σ := Value × Nat) 3 #[true, true, false, true, true, false, true, false] (fun s_ => [(62, s_.1), (12, .pointer (some ⟨s_.2, 0, none⟩))]) (fun s_ w' => (Kd.R (Kd.int .i64) 2 w' w.heap.size (fun k_ => (w.heap.size ≤ k_)) s_.1 y1099) ∧ (Kd.V (Kd.int .i64) 2 w' w.heap.size (fun k_ => ((P1_ k_ ∨ P2_ k_) ∨ w.heap.size ≤ k_) ∧ some k_ ≠ (s_.1 : Value).ownBlock ∧ k_ ≠ gb1088 ∧ k_ ≠ s_.2) (.slice A1 l1.length c1) l1) ∧ (Kd.V (Kd.int .i64) 2 w' w.heap.size (fun k_ => ((P1_ k_ ∨ P2_ k_) ∨ w.heap.size ≤ k_) ∧ some k_ ≠ (s_.1 : Value).ownBlock ∧ k_ ≠ gb1088 ∧ k_ ≠ s_.2) (.slice A2 l2.length c2) l2) ∧ (w'.heap[gb1088]? = some (.cells #[.int .i64 0, .slice none 0 0, .slice none 0 0] 52 (0, 0))) ∧ (w'.heap[s_.2]? = some (.cells #[.int .i64 0, .slice none 0 0, .slice none 0 0] 52 (0, 0))) ∧ (w.heap.size ≤ s_.2) ∧ (w.heap.size ≤ s_.2) ∧ (gb1088 ≠ s_.2) ∧ (s_.2 ≠ gb1088) ∧ (Below w.heap.size w w')) ?_ ?_
                        rotate_left
                        · intro hJ4_6
                          refine join_ (σ := Value) 4 #[true, true, true, true, false, false, false, false] (fun s_ => [(60, s_)]) (fun s_ w' => (Kd.R (Kd.int .i64) 2 w' w.heap.size (fun k_ => (w.heap.size ≤ k_)) s_ y1096) ∧ (Kd.V (Kd.int .i64) 2 w' w.heap.size (fun k_ => ((P1_ k_ ∨ P2_ k_) ∨ w.heap.size ≤ k_) ∧ some k_ ≠ (s_ : Value).ownBlock ∧ k_ ≠ gb1088) (.slice A1 l1.length c1) l1) ∧ (Kd.V (Kd.int .i64) 2 w' w.heap.size (fun k_ => ((P1_ k_ ∨ P2_ k_) ∨ w.heap.size ≤ k_) ∧ some k_ ≠ (s_ : Value).ownBlock ∧ k_ ≠ gb1088) (.slice A2 l2.length c2) l2) ∧ (w'.heap[gb1088]? = some (.cells #[.int .i64 0, .slice none 0 0, .slice none 0 0] 52 (0, 0))) ∧ (Below w.heap.size w w')) ?_ ?_
                          rotate_left
                          · intro hJ2
                            refine join_ (σ := Value) 4 #[true, true, false, true, true, false, false, false] (fun s_ => [(62, s_)]) (fun s_ w' => (Kd.R (Kd.int .i64) 2 w' w.heap.size (fun k_ => (w.heap.size ≤ k_)) s_ y1099) ∧ (Kd.V (Kd.int .i64) 2 w' w.heap.size (fun k_ => ((P1_ k_ ∨ P2_ k_) ∨ w.heap.size ≤ k_) ∧ some k_ ≠ (s_ : Value).ownBlock ∧ k_ ≠ gb1088) (.slice A1 l1.length c1) l1) ∧ (Kd.V (Kd.int .i64) 2 w' w.heap.size (fun k_ => ((P1_ k_ ∨ P2_ k_) ∨ w.heap.size ≤ k_) ∧ some k_ ≠ (s_ : Value).ownBlock ∧ k_ ≠ gb1088) (.slice A2 l2.length c2) l2) ∧ (w'.heap[gb1088]? = some (.cells #[.int .i64 0, .slice none 0 0, .slice none 0 0] 52 (0, 0))) ∧ (Below w.heap.size w w')) ?_ ?_
                            rotate_left
                            · intro hJ4
                              refine join_ (σ := Nat) 4 #[true, true, false, true, false, false, true, false] (fun s_ => [(12, .pointer (some ⟨s_, 0, none⟩))]) (fun s_ w' => (Kd.V (Kd.int .i64) 2 w' w.heap.size (fun k_ => ((P1_ k_ ∨ P2_ k_) ∨ w.heap.size ≤ k_) ∧ k_ ≠ gb1088 ∧ k_ ≠ s_) (.slice A1 l1.length c1) l1) ∧ (Kd.V (Kd.int .i64) 2 w' w.heap.size (fun k_ => ((P1_ k_ ∨ P2_ k_) ∨ w.heap.size ≤ k_) ∧ k_ ≠ gb1088 ∧ k_ ≠ s_) (.slice A2 l2.length c2) l2) ∧ (w'.heap[gb1088]? = some (.cells #[.int .i64 0, .slice none 0 0, .slice none 0 0] 52 (0, 0))) ∧ (w'.heap[s_]? = some (.cells #[.int .i64 0, .slice none 0 0, .slice none 0 0] 52 (0, 0))) ∧ (w.heap.size ≤ s_) ∧ (w.heap.size ≤ s_) ∧ (gb1088 ≠ s_) ∧ (s_ ≠ gb1088) ∧ (Below w.heap.size w w')) ?_ ?_
                              rotate_left
                              · intro hJ6
                                refine three_ (i := 2) (j := 4) (k := 6) (Ni := some 60) (Nj := some 62) (Nk := some 12) #[true, true, true, true, false, false, false, false] #[true, true, false, true, true, false, false, false] #[true, true, false, true, false, false, true, false] rfl rfl rfl rfl rfl rfl (three_of HT_.out (by kernel_rfl)) (by decide) (by decide) (by decide) (fun K hK => ?_) (fun K hK => ?_) (fun K hK => ?_)
                                · skip
                                  refine Kd.R_make_step (Kd.int .i64) _ 2 (by rfl) (N := 60) rfl 22 _ _ rfl (ji22) rfl rfl Try.underlying22 (.int .i64 0) 8 info2 rfl (by decide) (by omega) 0 (ok := fun _ => True) (okp := fun _ => True) rfl (fun _ hk => hk) trivial (of_decide_eq_true (by first | (with_reducible assumption) | assumption)) (Nat.le_trans (Nat.mul_le_mul_right _ (of_decide_eq_true (by first | (with_reducible assumption) | assumption) : (ji22).toNat ≤ 35184372088832)) (by omega)) (Below.refl _ _) (Nat.le_refl _) ?_
                                  intro v1097 w28 ho29 hb hg_ hnew_
                                  clear hg_ hnew_
                                  (first | rw [← Ny1096.out] at ho29 | (simp only [Int.reduceToNat] at ho29; rw [← Ny1096.out] at ho29))
                                  have n0_ := Aside0.mk (Kd.V_elder' (by (with_reducible repeat (first | apply Kd.V_alloc | apply Kd.V_drewN | apply Kd.V_drew)); exact HO_1.out) (Kd.R_base ho29) hb)
                                  have n1_ := Aside0.mk (Kd.V_elder' (by (with_reducible repeat (first | apply Kd.V_alloc | apply Kd.V_drewN | apply Kd.V_drew)); exact HO_2.out) (Kd.R_base ho29) hb)
                                  have n2_ := Aside0.mk (Kd.R_lower (Kd.R_newM (M := fun k_ => (w.heap.size ≤ k_)) ho29 (below_size (by repeat (first | (with_reducible first | exact HB.out | apply below_alloc | apply pw_below_drewN | apply below_drew1 | refine below_set ?_ GE1088.out) | exact HB.out))) (fun k_ h_ => h_)) (below_size (by repeat (first | (with_reducible first | exact HB.out | apply below_alloc | apply pw_below_drewN | apply below_drew1 | refine below_set ?_ GE1088.out) | exact HB.out))))
                                  have n3_ := Aside0.mk (blk_below (g := gb1088) (o := .cells #[.int .i64 0, .slice none 0 0, .slice none 0 0] 52 (0, 0)) (by (with_reducible repeat (first | refine blk_drewN ?_ _ | refine blk_drew ?_ | refine blk_alloc ?_ _)); exact BK1088.out) hb)
                                  have n4_ := Aside0.mk (below_step (by repeat (first | (with_reducible first | exact HB.out | apply below_alloc | apply pw_below_drewN | apply below_drew1 | refine below_set ?_ GE1088.out) | exact HB.out)) hb)
                                  clear HO_1
                                  clear HO_2
                                  clear BK1088
                                  clear HB
                                  have HO_1 := n0_
                                  have HO_2 := n1_
                                  have HO1098 := n2_
                                  have BK1088 := n3_
                                  have HB := n4_
                                  clear n0_ n1_ n2_ n3_ n4_
                                  clear hb ho29
                                  refine hK.out _ _ trivial (fun hHeld => ?_)
                                  clear hK K
                                  refine norm_ (a' := ?_) ?_ ?_
                                  rotate_left
                                  · show Act.put _ (some 60) _ = _
                                    simp only [Act.put, List.setIfInBounds_toArray, List.set_cons_zero, List.set_cons_succ, i64_w, i32_w]
                                    rfl
                                  exact norm_ (by first | (simp only [putAll, Act.put, List.setIfInBounds_toArray, List.set_cons_zero, List.set_cons_succ]; done) | (simp only [putAll, Act.put, List.setIfInBounds_toArray, List.set_cons_zero, List.set_cons_succ]; rfl)) (hJ2 (v1097) _ ⟨(by (with_reducible repeat (first | apply Kd.R_alloc | apply Kd.R_drewN | apply Kd.R_drew)); exact Kd.R_mono HO1098.out (fun _ hk => hk.1)), (by (with_reducible repeat (first | apply Kd.V_alloc | apply Kd.V_drewN | apply Kd.V_drew)); exact Kd.V_mono HO_1.out (fun _ hk => ⟨hk.1.1, ⟨hk.2, hk.1.2⟩⟩)), (by (with_reducible repeat (first | apply Kd.V_alloc | apply Kd.V_drewN | apply Kd.V_drew)); exact Kd.V_mono HO_2.out (fun _ hk => ⟨hk.1.1, ⟨hk.2, hk.1.2⟩⟩)), (by (with_reducible repeat (first | refine blk_drewN ?_ _ | refine blk_drew ?_ | refine blk_alloc ?_ _)); exact BK1088.out), (by repeat (first | (with_reducible first | exact HB.out | apply below_alloc | apply pw_below_drewN | apply below_drew1 | refine below_set ?_ GE1088.out) | exact HB.out))⟩)
                                · skip
                                  refine Kd.R_make_step (Kd.int .i64) _ 2 (by rfl) (N := 62) rfl 22 _ _ rfl (ji22) rfl rfl Try.underlying22 (.int .i64 0) 8 info2 rfl (by decide) (by omega) 0 (ok := fun _ => True) (okp := fun _ => True) rfl (fun _ hk => hk) trivial (of_decide_eq_true (by first | (with_reducible assumption) | assumption)) (Nat.le_trans (Nat.mul_le_mul_right _ (of_decide_eq_true (by first | (with_reducible assumption) | assumption) : (ji22).toNat ≤ 35184372088832)) (by omega)) (Below.refl _ _) (Nat.le_refl _) ?_
                                  intro v1100 w28 ho29 hb hg_ hnew_
                                  clear hg_ hnew_
                                  (first | rw [← Ny1099.out] at ho29 | (simp only [Int.reduceToNat] at ho29; rw [← Ny1099.out] at ho29))
                                  have n0_ := Aside0.mk (Kd.V_elder' (by (with_reducible repeat (first | apply Kd.V_alloc | apply Kd.V_drewN | apply Kd.V_drew)); exact HO_1.out) (Kd.R_base ho29) hb)
                                  have n1_ := Aside0.mk (Kd.V_elder' (by (with_reducible repeat (first | apply Kd.V_alloc | apply Kd.V_drewN | apply Kd.V_drew)); exact HO_2.out) (Kd.R_base ho29) hb)
                                  have n2_ := Aside0.mk (Kd.R_lower (Kd.R_newM (M := fun k_ => (w.heap.size ≤ k_)) ho29 (below_size (by repeat (first | (with_reducible first | exact HB.out | apply below_alloc | apply pw_below_drewN | apply below_drew1 | refine below_set ?_ GE1088.out) | exact HB.out))) (fun k_ h_ => h_)) (below_size (by repeat (first | (with_reducible first | exact HB.out | apply below_alloc | apply pw_below_drewN | apply below_drew1 | refine below_set ?_ GE1088.out) | exact HB.out))))
                                  have n3_ := Aside0.mk (blk_below (g := gb1088) (o := .cells #[.int .i64 0, .slice none 0 0, .slice none 0 0] 52 (0, 0)) (by (with_reducible repeat (first | refine blk_drewN ?_ _ | refine blk_drew ?_ | refine blk_alloc ?_ _)); exact BK1088.out) hb)
                                  have n4_ := Aside0.mk (below_step (by repeat (first | (with_reducible first | exact HB.out | apply below_alloc | apply pw_below_drewN | apply below_drew1 | refine below_set ?_ GE1088.out) | exact HB.out)) hb)
                                  clear HO_1
                                  clear HO_2
                                  clear BK1088
                                  clear HB
                                  have HO_1 := n0_
                                  have HO_2 := n1_
                                  have HO1101 := n2_
                                  have BK1088 := n3_
                                  have HB := n4_
                                  clear n0_ n1_ n2_ n3_ n4_
                                  clear hb ho29
                                  refine hK.out _ _ trivial (fun hHeld => ?_)
                                  clear hK K
                                  refine norm_ (a' := ?_) ?_ ?_
                                  rotate_left
                                  · show Act.put _ (some 62) _ = _
                                    simp only [Act.put, List.setIfInBounds_toArray, List.set_cons_zero, List.set_cons_succ, i64_w, i32_w]
                                    rfl
                                  exact norm_ (by first | (simp only [putAll, Act.put, List.setIfInBounds_toArray, List.set_cons_zero, List.set_cons_succ]; done) | (simp only [putAll, Act.put, List.setIfInBounds_toArray, List.set_cons_zero, List.set_cons_succ]; rfl)) (hJ4 (v1100) _ ⟨(by (with_reducible repeat (first | apply Kd.R_alloc | apply Kd.R_drewN | apply Kd.R_drew)); exact Kd.R_mono HO1101.out (fun _ hk => hk.1)), (by (with_reducible repeat (first | apply Kd.V_alloc | apply Kd.V_drewN | apply Kd.V_drew)); exact Kd.V_mono HO_1.out (fun _ hk => ⟨hk.1.1, ⟨hk.2, hk.1.2⟩⟩)), (by (with_reducible repeat (first | apply Kd.V_alloc | apply Kd.V_drewN | apply Kd.V_drew)); exact Kd.V_mono HO_2.out (fun _ hk => ⟨hk.1.1, ⟨hk.2, hk.1.2⟩⟩)), (by (with_reducible repeat (first | refine blk_drewN ?_ _ | refine blk_drew ?_ | refine blk_alloc ?_ _)); exact BK1088.out), (by repeat (first | (with_reducible first | exact HB.out | apply below_alloc | apply pw_below_drewN | apply below_drew1 | refine below_set ?_ GE1088.out) | exact HB.out))⟩)
                                · skip
                                  refine box_step ?hg (N := 12) ?hd (cs := #[.int .i64 0, .slice none 0 0, .slice none 0 0]) (t := 52) ?hr ?_; (case hd => rfl); (case hg => rfl); (case hr => first | (go_simp; done) | (go_simp; rfl))
                                  intro gb1102 hg w28 hbox hb
                                  have n0_ := Aside0.mk (Kd.V_below (Kd.V_elderB (by (with_reducible repeat (first | apply Kd.V_alloc | apply Kd.V_drewN | apply Kd.V_drew)); exact HO_1.out) gb1102 (Nat.le_of_eq hg.symm)) hb)
                                  have n1_ := Aside0.mk (Kd.V_below (Kd.V_elderB (by (with_reducible repeat (first | apply Kd.V_alloc | apply Kd.V_drewN | apply Kd.V_drew)); exact HO_2.out) gb1102 (Nat.le_of_eq hg.symm)) hb)
                                  have n2_ := Aside0.mk (blk_below (g := gb1088) (o := .cells #[.int .i64 0, .slice none 0 0, .slice none 0 0] 52 (0, 0)) (by (with_reducible repeat (first | refine blk_drewN ?_ _ | refine blk_drew ?_ | refine blk_alloc ?_ _)); exact BK1088.out) hb)
                                  have n3_ := Aside0.mk (below_step (by repeat (first | (with_reducible first | exact HB.out | apply below_alloc | apply pw_below_drewN | apply below_drew1 | refine below_set ?_ GE1088.out) | exact HB.out)) hb)
                                  have n4_ := Aside0.mk (hbox)
                                  have n5_ := Aside0.mk ((by rw [hg]; exact (below_size (by repeat (first | (with_reducible first | exact HB.out | apply below_alloc | apply pw_below_drewN | apply below_drew1 | refine below_set ?_ GE1088.out) | exact HB.out))) : w.heap.size ≤ gb1102))
                                  have n6_ := Aside0.mk ((by rw [hg]; exact (below_size (by repeat (first | (with_reducible first | exact HB.out | apply below_alloc | apply pw_below_drewN | apply below_drew1 | refine below_set ?_ GE1088.out) | exact HB.out))) : w.heap.size ≤ gb1102))
                                  have n7_ := Aside0.mk ((by rw [hg]; exact Nat.ne_of_lt (blk_lt (g := gb1088) (o := .cells #[.int .i64 0, .slice none 0 0, .slice none 0 0] 52 (0, 0)) (by (with_reducible repeat (first | refine blk_drewN ?_ _ | refine blk_drew ?_ | refine blk_alloc ?_ _)); exact BK1088.out)) : gb1088 ≠ gb1102))
                                  have n8_ := Aside0.mk ((by rw [hg]; exact Nat.ne_of_gt (blk_lt (g := gb1088) (o := .cells #[.int .i64 0, .slice none 0 0, .slice none 0 0] 52 (0, 0)) (by (with_reducible repeat (first | refine blk_drewN ?_ _ | refine blk_drew ?_ | refine blk_alloc ?_ _)); exact BK1088.out)) : gb1102 ≠ gb1088))
                                  clear HO_1
                                  clear HO_2
                                  clear BK1088
                                  clear HB
                                  have HO_1 := n0_
                                  have HO_2 := n1_
                                  have BK1088 := n2_
                                  have HB := n3_
                                  have BK1102 := n4_
                                  have GW1102 := n5_
                                  have GE1102 := n6_
                                  have NB1088_1102 := n7_
                                  have NB1102_1088 := n8_
                                  clear n0_ n1_ n2_ n3_ n4_ n5_ n6_ n7_ n8_
                                  clear hb hbox hg
                                  refine hK.out _ _ trivial (fun hHeld => ?_)
                                  clear hK K
                                  refine norm_ (a' := ?_) ?_ ?_
                                  rotate_left
                                  · show Act.put _ (some 12) _ = _
                                    simp only [Act.put, List.setIfInBounds_toArray, List.set_cons_zero, List.set_cons_succ, i64_w, i32_w]
                                    rfl
                                  exact norm_ (by first | (simp only [putAll, Act.put, List.setIfInBounds_toArray, List.set_cons_zero, List.set_cons_succ]; done) | (simp only [putAll, Act.put, List.setIfInBounds_toArray, List.set_cons_zero, List.set_cons_succ]; rfl)) (hJ6 (gb1102) _ ⟨(by (with_reducible repeat (first | apply Kd.V_alloc | apply Kd.V_drewN | apply Kd.V_drew)); exact Kd.V_mono HO_1.out (fun _ hk => ⟨hk.1.1, ⟨hk.1.2, hk.2⟩⟩)), (by (with_reducible repeat (first | apply Kd.V_alloc | apply Kd.V_drewN | apply Kd.V_drew)); exact Kd.V_mono HO_2.out (fun _ hk => ⟨hk.1.1, ⟨hk.1.2, hk.2⟩⟩)), (by (with_reducible repeat (first | refine blk_drewN ?_ _ | refine blk_drew ?_ | refine blk_alloc ?_ _)); exact BK1088.out), (by (with_reducible repeat (first | refine blk_drewN ?_ _ | refine blk_drew ?_ | refine blk_alloc ?_ _)); exact BK1102.out), GW1102.out, GE1102.out, NB1088_1102.out, NB1102_1088.out, (by repeat (first | (with_reducible first | exact HB.out | apply below_alloc | apply pw_below_drewN | apply below_drew1 | refine below_set ?_ GE1088.out | refine below_set ?_ GE1102.out) | exact HB.out))⟩)
                              · skip
                                rintro gb1102 w29 ⟨h0_, h1_, h2_, h3_, h4_, h5_, h6_, h7_, h8_⟩
                                have n0_ : Aside0 (Kd.V (Kd.int .i64) 2 w29 w.heap.size (fun k_ => ((P1_ k_ ∨ P2_ k_) ∨ w.heap.size ≤ k_) ∧ k_ ≠ gb1088 ∧ k_ ≠ gb1102) (.slice A1 l1.length c1) l1) := ⟨h0_⟩
                                have n1_ : Aside0 (Kd.V (Kd.int .i64) 2 w29 w.heap.size (fun k_ => ((P1_ k_ ∨ P2_ k_) ∨ w.heap.size ≤ k_) ∧ k_ ≠ gb1088 ∧ k_ ≠ gb1102) (.slice A2 l2.length c2) l2) := ⟨h1_⟩
                                have n2_ : Aside0 (w29.heap[gb1088]? = some (.cells #[.int .i64 0, .slice none 0 0, .slice none 0 0] 52 (0, 0))) := ⟨h2_⟩
                                have n3_ : Aside0 (w29.heap[gb1102]? = some (.cells #[.int .i64 0, .slice none 0 0, .slice none 0 0] 52 (0, 0))) := ⟨h3_⟩
                                have n4_ : Aside0 (w.heap.size ≤ gb1102) := ⟨h4_⟩
                                have n5_ : Aside0 (w.heap.size ≤ gb1102) := ⟨h5_⟩
                                have n6_ : Aside0 (gb1088 ≠ gb1102) := ⟨h6_⟩
                                have n7_ : Aside0 (gb1102 ≠ gb1088) := ⟨h7_⟩
                                have n8_ : Aside0 (Below w.heap.size w w29) := ⟨h8_⟩
                                clear HO_1
                                clear HO_2
                                clear BK1088
                                clear HB
                                clear h0_ h1_ h2_ h3_ h4_ h5_ h6_ h7_ h8_
                                have HO_1 := n0_
                                have HO_2 := n1_
                                have BK1088 := n2_
                                have BK1102 := n3_
                                have GW1102 := n4_
                                have GE1102 := n5_
                                have NB1088_1102 := n6_
                                have NB1102_1088 := n7_
                                have HB := n8_
                                clear n0_ n1_ n2_ n3_ n4_ n5_ n6_ n7_ n8_
                                have hHeld := trivial
                                refine norm_ (a' := ?_) ?_ ?_
                                rotate_left
                                · simp only [putAll, Act.put, List.setIfInBounds_toArray, List.set_cons_zero, List.set_cons_succ]
                                  rfl
                                refine two_ (i := 2) (j := 4) (Ni := some 60) (Nj := some 62) #[true, true, true, true, false, false, true, false] #[true, true, false, true, true, false, true, false] rfl rfl rfl rfl (two_of HT_.out (by kernel_rfl)) (by decide) (by decide) (fun K hK => ?_) (fun K hK => ?_)
                                · skip
                                  refine Kd.R_make_step (Kd.int .i64) _ 2 (by rfl) (N := 60) rfl 22 _ _ rfl (ji22) rfl rfl Try.underlying22 (.int .i64 0) 8 info2 rfl (by decide) (by omega) 0 (ok := fun _ => True) (okp := fun _ => True) rfl (fun _ hk => hk) trivial (of_decide_eq_true (by first | (with_reducible assumption) | assumption)) (Nat.le_trans (Nat.mul_le_mul_right _ (of_decide_eq_true (by first | (with_reducible assumption) | assumption) : (ji22).toNat ≤ 35184372088832)) (by omega)) (Below.refl _ _) (Nat.le_refl _) ?_
                                  intro v1097 w30 ho31 hb hg_ hnew_
                                  clear hg_ hnew_
                                  (first | rw [← Ny1096.out] at ho31 | (simp only [Int.reduceToNat] at ho31; rw [← Ny1096.out] at ho31))
                                  have n0_ := Aside0.mk (Kd.V_elder' (by (with_reducible repeat (first | apply Kd.V_alloc | apply Kd.V_drewN | apply Kd.V_drew)); exact HO_1.out) (Kd.R_base ho31) hb)
                                  have n1_ := Aside0.mk (Kd.V_elder' (by (with_reducible repeat (first | apply Kd.V_alloc | apply Kd.V_drewN | apply Kd.V_drew)); exact HO_2.out) (Kd.R_base ho31) hb)
                                  have n2_ := Aside0.mk (Kd.R_lower (Kd.R_newM (M := fun k_ => (w.heap.size ≤ k_)) ho31 (below_size (by repeat (first | (with_reducible first | exact HB.out | apply below_alloc | apply pw_below_drewN | apply below_drew1 | refine below_set ?_ GE1088.out | refine below_set ?_ GE1102.out) | exact HB.out))) (fun k_ h_ => h_)) (below_size (by repeat (first | (with_reducible first | exact HB.out | apply below_alloc | apply pw_below_drewN | apply below_drew1 | refine below_set ?_ GE1088.out | refine below_set ?_ GE1102.out) | exact HB.out))))
                                  have n3_ := Aside0.mk (blk_below (g := gb1088) (o := .cells #[.int .i64 0, .slice none 0 0, .slice none 0 0] 52 (0, 0)) (by (with_reducible repeat (first | refine blk_drewN ?_ _ | refine blk_drew ?_ | refine blk_alloc ?_ _)); exact BK1088.out) hb)
                                  have n4_ := Aside0.mk (blk_below (g := gb1102) (o := .cells #[.int .i64 0, .slice none 0 0, .slice none 0 0] 52 (0, 0)) (by (with_reducible repeat (first | refine blk_drewN ?_ _ | refine blk_drew ?_ | refine blk_alloc ?_ _)); exact BK1102.out) hb)
                                  have n5_ := Aside0.mk (below_step (by repeat (first | (with_reducible first | exact HB.out | apply below_alloc | apply pw_below_drewN | apply below_drew1 | refine below_set ?_ GE1088.out | refine below_set ?_ GE1102.out) | exact HB.out)) hb)
                                  clear HO_1
                                  clear HO_2
                                  clear BK1088
                                  clear BK1102
                                  clear HB
                                  have HO_1 := n0_
                                  have HO_2 := n1_
                                  have HO1098 := n2_
                                  have BK1088 := n3_
                                  have BK1102 := n4_
                                  have HB := n5_
                                  clear n0_ n1_ n2_ n3_ n4_ n5_
                                  clear hb ho31
                                  refine hK.out _ _ trivial (fun hHeld => ?_)
                                  clear hK K
                                  refine norm_ (a' := ?_) ?_ ?_
                                  rotate_left
                                  · show Act.put _ (some 60) _ = _
                                    simp only [Act.put, List.setIfInBounds_toArray, List.set_cons_zero, List.set_cons_succ, i64_w, i32_w]
                                    rfl
                                  exact norm_ (by first | (simp only [putAll, Act.put, List.setIfInBounds_toArray, List.set_cons_zero, List.set_cons_succ]; done) | (simp only [putAll, Act.put, List.setIfInBounds_toArray, List.set_cons_zero, List.set_cons_succ]; rfl)) (hJ2_6 (v1097, gb1102) _ ⟨(by (with_reducible repeat (first | apply Kd.R_alloc | apply Kd.R_drewN | apply Kd.R_drew)); exact Kd.R_mono HO1098.out (fun _ hk => hk.1)), (by (with_reducible repeat (first | apply Kd.V_alloc | apply Kd.V_drewN | apply Kd.V_drew)); exact Kd.V_mono HO_1.out (fun _ hk => ⟨hk.1.1, ⟨hk.2, ⟨hk.1.2.1, hk.1.2.2⟩⟩⟩)), (by (with_reducible repeat (first | apply Kd.V_alloc | apply Kd.V_drewN | apply Kd.V_drew)); exact Kd.V_mono HO_2.out (fun _ hk => ⟨hk.1.1, ⟨hk.2, ⟨hk.1.2.1, hk.1.2.2⟩⟩⟩)), (by (with_reducible repeat (first | refine blk_drewN ?_ _ | refine blk_drew ?_ | refine blk_alloc ?_ _)); exact BK1088.out), (by (with_reducible repeat (first | refine blk_drewN ?_ _ | refine blk_drew ?_ | refine blk_alloc ?_ _)); exact BK1102.out), GW1102.out, GE1102.out, NB1088_1102.out, NB1102_1088.out, (by repeat (first | (with_reducible first | exact HB.out | apply below_alloc | apply pw_below_drewN | apply below_drew1 | refine below_set ?_ GE1088.out | refine below_set ?_ GE1102.out) | exact HB.out))⟩)
                                · skip
                                  refine Kd.R_make_step (Kd.int .i64) _ 2 (by rfl) (N := 62) rfl 22 _ _ rfl (ji22) rfl rfl Try.underlying22 (.int .i64 0) 8 info2 rfl (by decide) (by omega) 0 (ok := fun _ => True) (okp := fun _ => True) rfl (fun _ hk => hk) trivial (of_decide_eq_true (by first | (with_reducible assumption) | assumption)) (Nat.le_trans (Nat.mul_le_mul_right _ (of_decide_eq_true (by first | (with_reducible assumption) | assumption) : (ji22).toNat ≤ 35184372088832)) (by omega)) (Below.refl _ _) (Nat.le_refl _) ?_
                                  intro v1100 w30 ho31 hb hg_ hnew_
                                  clear hg_ hnew_
                                  (first | rw [← Ny1099.out] at ho31 | (simp only [Int.reduceToNat] at ho31; rw [← Ny1099.out] at ho31))
                                  have n0_ := Aside0.mk (Kd.V_elder' (by (with_reducible repeat (first | apply Kd.V_alloc | apply Kd.V_drewN | apply Kd.V_drew)); exact HO_1.out) (Kd.R_base ho31) hb)
                                  have n1_ := Aside0.mk (Kd.V_elder' (by (with_reducible repeat (first | apply Kd.V_alloc | apply Kd.V_drewN | apply Kd.V_drew)); exact HO_2.out) (Kd.R_base ho31) hb)
                                  have n2_ := Aside0.mk (Kd.R_lower (Kd.R_newM (M := fun k_ => (w.heap.size ≤ k_)) ho31 (below_size (by repeat (first | (with_reducible first | exact HB.out | apply below_alloc | apply pw_below_drewN | apply below_drew1 | refine below_set ?_ GE1088.out | refine below_set ?_ GE1102.out) | exact HB.out))) (fun k_ h_ => h_)) (below_size (by repeat (first | (with_reducible first | exact HB.out | apply below_alloc | apply pw_below_drewN | apply below_drew1 | refine below_set ?_ GE1088.out | refine below_set ?_ GE1102.out) | exact HB.out))))
                                  have n3_ := Aside0.mk (blk_below (g := gb1088) (o := .cells #[.int .i64 0, .slice none 0 0, .slice none 0 0] 52 (0, 0)) (by (with_reducible repeat (first | refine blk_drewN ?_ _ | refine blk_drew ?_ | refine blk_alloc ?_ _)); exact BK1088.out) hb)
                                  have n4_ := Aside0.mk (blk_below (g := gb1102) (o := .cells #[.int .i64 0, .slice none 0 0, .slice none 0 0] 52 (0, 0)) (by (with_reducible repeat (first | refine blk_drewN ?_ _ | refine blk_drew ?_ | refine blk_alloc ?_ _)); exact BK1102.out) hb)
                                  have n5_ := Aside0.mk (below_step (by repeat (first | (with_reducible first | exact HB.out | apply below_alloc | apply pw_below_drewN | apply below_drew1 | refine below_set ?_ GE1088.out | refine below_set ?_ GE1102.out) | exact HB.out)) hb)
                                  clear HO_1
                                  clear HO_2
                                  clear BK1088
                                  clear BK1102
                                  clear HB
                                  have HO_1 := n0_
                                  have HO_2 := n1_
                                  have HO1101 := n2_
                                  have BK1088 := n3_
                                  have BK1102 := n4_
                                  have HB := n5_
                                  clear n0_ n1_ n2_ n3_ n4_ n5_
                                  clear hb ho31
                                  refine hK.out _ _ trivial (fun hHeld => ?_)
                                  clear hK K
                                  refine norm_ (a' := ?_) ?_ ?_
                                  rotate_left
                                  · show Act.put _ (some 62) _ = _
                                    simp only [Act.put, List.setIfInBounds_toArray, List.set_cons_zero, List.set_cons_succ, i64_w, i32_w]
                                    rfl
                                  exact norm_ (by first | (simp only [putAll, Act.put, List.setIfInBounds_toArray, List.set_cons_zero, List.set_cons_succ]; done) | (simp only [putAll, Act.put, List.setIfInBounds_toArray, List.set_cons_zero, List.set_cons_succ]; rfl)) (hJ4_6 (v1100, gb1102) _ ⟨(by (with_reducible repeat (first | apply Kd.R_alloc | apply Kd.R_drewN | apply Kd.R_drew)); exact Kd.R_mono HO1101.out (fun _ hk => hk.1)), (by (with_reducible repeat (first | apply Kd.V_alloc | apply Kd.V_drewN | apply Kd.V_drew)); exact Kd.V_mono HO_1.out (fun _ hk => ⟨hk.1.1, ⟨hk.2, ⟨hk.1.2.1, hk.1.2.2⟩⟩⟩)), (by (with_reducible repeat (first | apply Kd.V_alloc | apply Kd.V_drewN | apply Kd.V_drew)); exact Kd.V_mono HO_2.out (fun _ hk => ⟨hk.1.1, ⟨hk.2, ⟨hk.1.2.1, hk.1.2.2⟩⟩⟩)), (by (with_reducible repeat (first | refine blk_drewN ?_ _ | refine blk_drew ?_ | refine blk_alloc ?_ _)); exact BK1088.out), (by (with_reducible repeat (first | refine blk_drewN ?_ _ | refine blk_drew ?_ | refine blk_alloc ?_ _)); exact BK1102.out), GW1102.out, GE1102.out, NB1088_1102.out, NB1102_1088.out, (by repeat (first | (with_reducible first | exact HB.out | apply below_alloc | apply pw_below_drewN | apply below_drew1 | refine below_set ?_ GE1088.out | refine below_set ?_ GE1102.out) | exact HB.out))⟩)
                            · skip
                              rintro v1100 w30 ⟨h0_, h1_, h2_, h3_, h4_⟩
                              have n0_ : Aside0 (Kd.R (Kd.int .i64) 2 w30 w.heap.size (fun k_ => (w.heap.size ≤ k_)) v1100 y1099) := ⟨h0_⟩
                              have n1_ : Aside0 (Kd.V (Kd.int .i64) 2 w30 w.heap.size (fun k_ => ((P1_ k_ ∨ P2_ k_) ∨ w.heap.size ≤ k_) ∧ some k_ ≠ (v1100 : Value).ownBlock ∧ k_ ≠ gb1088) (.slice A1 l1.length c1) l1) := ⟨h1_⟩
                              have n2_ : Aside0 (Kd.V (Kd.int .i64) 2 w30 w.heap.size (fun k_ => ((P1_ k_ ∨ P2_ k_) ∨ w.heap.size ≤ k_) ∧ some k_ ≠ (v1100 : Value).ownBlock ∧ k_ ≠ gb1088) (.slice A2 l2.length c2) l2) := ⟨h2_⟩
                              have n3_ : Aside0 (w30.heap[gb1088]? = some (.cells #[.int .i64 0, .slice none 0 0, .slice none 0 0] 52 (0, 0))) := ⟨h3_⟩
                              have n4_ : Aside0 (Below w.heap.size w w30) := ⟨h4_⟩
                              clear HO_1
                              clear HO_2
                              clear BK1088
                              clear HB
                              clear h0_ h1_ h2_ h3_ h4_
                              have HO1101 := n0_
                              have HO_1 := n1_
                              have HO_2 := n2_
                              have BK1088 := n3_
                              have HB := n4_
                              clear n0_ n1_ n2_ n3_ n4_
                              have hHeld := trivial
                              refine norm_ (a' := ?_) ?_ ?_
                              rotate_left
                              · simp only [putAll, Act.put, List.setIfInBounds_toArray, List.set_cons_zero, List.set_cons_succ]
                                rfl
                              refine two_ (i := 2) (j := 6) (Ni := some 60) (Nj := some 12) #[true, true, true, true, true, false, false, false] #[true, true, false, true, true, false, true, false] rfl rfl rfl rfl (two_of HT_.out (by kernel_rfl)) (by decide) (by decide) (fun K hK => ?_) (fun K hK => ?_)
                              · skip
                                refine Kd.R_make_step (Kd.int .i64) _ 2 (by rfl) (N := 60) rfl 22 _ _ rfl (ji22) rfl rfl Try.underlying22 (.int .i64 0) 8 info2 rfl (by decide) (by omega) 0 (ok := fun _ => True) (okp := fun _ => True) rfl (fun _ hk => hk) trivial (of_decide_eq_true (by first | (with_reducible assumption) | assumption)) (Nat.le_trans (Nat.mul_le_mul_right _ (of_decide_eq_true (by first | (with_reducible assumption) | assumption) : (ji22).toNat ≤ 35184372088832)) (by omega)) (Below.refl _ _) (Nat.le_refl _) ?_
                                intro v1097 w31 ho32 hb hg_ hnew_
                                clear hg_ hnew_
                                (first | rw [← Ny1096.out] at ho32 | (simp only [Int.reduceToNat] at ho32; rw [← Ny1096.out] at ho32))
                                have n0_ := Aside0.mk (Kd.V_elder' (by (with_reducible repeat (first | apply Kd.V_alloc | apply Kd.V_drewN | apply Kd.V_drew)); exact HO_1.out) (Kd.R_base ho32) hb)
                                have n1_ := Aside0.mk (Kd.V_elder' (by (with_reducible repeat (first | apply Kd.V_alloc | apply Kd.V_drewN | apply Kd.V_drew)); exact HO_2.out) (Kd.R_base ho32) hb)
                                have n2_ := Aside0.mk (Kd.R_elder' (rs HO1101) (Kd.R_base ho32) hb)
                                have n3_ := Aside0.mk (Kd.R_lower (Kd.R_new' (Kd.R_newM (M := fun k_ => (w.heap.size ≤ k_)) ho32 (below_size (by repeat (first | (with_reducible first | exact HB.out | apply below_alloc | apply pw_below_drewN | apply below_drew1 | refine below_set ?_ GE1088.out) | exact HB.out))) (fun k_ h_ => h_)) (Kd.R_lt (rs HO1101))) (below_size (by repeat (first | (with_reducible first | exact HB.out | apply below_alloc | apply pw_below_drewN | apply below_drew1 | refine below_set ?_ GE1088.out) | exact HB.out))))
                                have n4_ := Aside0.mk (blk_below (g := gb1088) (o := .cells #[.int .i64 0, .slice none 0 0, .slice none 0 0] 52 (0, 0)) (by (with_reducible repeat (first | refine blk_drewN ?_ _ | refine blk_drew ?_ | refine blk_alloc ?_ _)); exact BK1088.out) hb)
                                have n5_ := Aside0.mk (below_step (by repeat (first | (with_reducible first | exact HB.out | apply below_alloc | apply pw_below_drewN | apply below_drew1 | refine below_set ?_ GE1088.out) | exact HB.out)) hb)
                                clear HO_1
                                clear HO_2
                                clear HO1101
                                clear BK1088
                                clear HB
                                have HO_1 := n0_
                                have HO_2 := n1_
                                have HO1101 := n2_
                                have HO1098 := n3_
                                have BK1088 := n4_
                                have HB := n5_
                                clear n0_ n1_ n2_ n3_ n4_ n5_
                                clear hb ho32
                                obtain ⟨Ao33, co33, eo33⟩ := Kd.R_slice HO1101.out
                                (first | subst eo33 | (injection eo33 with f1_ f2_ f3_; have f4_ := f1_.symm; have f5_ := f3_.symm; clear f1_ f2_ f3_; subst f4_; subst f5_))
                                obtain ⟨Ao34, co34, eo34⟩ := Kd.R_slice HO1098.out
                                (first | subst eo34 | (injection eo34 with f1_ f2_ f3_; have f4_ := f1_.symm; have f5_ := f3_.symm; clear f1_ f2_ f3_; subst f4_; subst f5_))
                                refine hK.out _ _ trivial (fun hHeld => ?_)
                                clear hK K
                                refine norm_ (a' := ?_) ?_ ?_
                                rotate_left
                                · show Act.put _ (some 60) _ = _
                                  simp only [Act.put, List.setIfInBounds_toArray, List.set_cons_zero, List.set_cons_succ, i64_w, i32_w]
                                  rfl
                                refine pure_ (i := 5) (N := some 63) (v := ?_) (a' := ?_) #[true, true, true, true, true, true, false, false] rfl rfl (any_of HT_.out (by kernel_rfl)) (fun _ _ _ h => h) (Or.inl ⟨by rfl, ?_⟩) ?_ ?_
                                rotate_left
                                · intro w'
                                  go_simp
                                  with_reducible rfl
                                rotate_left
                                · simp only [Act.put, List.setIfInBounds_toArray, List.set_cons_zero, List.set_cons_succ, i64_w, i32_w]
                                  rfl
                                exact norm_ (by first | (simp only [putAll, Act.put, List.setIfInBounds_toArray, List.set_cons_zero, List.set_cons_succ]; done) | (simp only [putAll, Act.put, List.setIfInBounds_toArray, List.set_cons_zero, List.set_cons_succ]; rfl)) (hJ2_4 (.slice Ao34 y1096.length co34, .slice Ao33 y1099.length co33) _ ⟨(by (with_reducible repeat (first | apply Kd.R_alloc | apply Kd.R_drewN | apply Kd.R_drew)); exact Kd.R_mono HO1098.out (fun _ hk => ⟨hk.1.1, hk.2⟩)), (rs HO1101), (by (with_reducible repeat (first | apply Kd.V_alloc | apply Kd.V_drewN | apply Kd.V_drew)); exact Kd.V_mono HO_1.out (fun _ hk => ⟨hk.1.1, ⟨hk.2, ⟨hk.1.2.1, hk.1.2.2⟩⟩⟩)), (by (with_reducible repeat (first | apply Kd.V_alloc | apply Kd.V_drewN | apply Kd.V_drew)); exact Kd.V_mono HO_2.out (fun _ hk => ⟨hk.1.1, ⟨hk.2, ⟨hk.1.2.1, hk.1.2.2⟩⟩⟩)), (by (with_reducible repeat (first | refine blk_drewN ?_ _ | refine blk_drew ?_ | refine blk_alloc ?_ _)); exact BK1088.out), (by repeat (first | (with_reducible first | exact HB.out | apply below_alloc | apply pw_below_drewN | apply below_drew1 | refine below_set ?_ GE1088.out) | exact HB.out))⟩)
                              · skip
                                refine box_step ?hg (N := 12) ?hd (cs := #[.int .i64 0, .slice none 0 0, .slice none 0 0]) (t := 52) ?hr ?_; (case hd => rfl); (case hg => rfl); (case hr => first | (go_simp; done) | (go_simp; rfl))
                                intro gb1102 hg w31 hbox hb
                                have n0_ := Aside0.mk (Kd.V_below (Kd.V_elderB (by (with_reducible repeat (first | apply Kd.V_alloc | apply Kd.V_drewN | apply Kd.V_drew)); exact HO_1.out) gb1102 (Nat.le_of_eq hg.symm)) hb)
                                have n1_ := Aside0.mk (Kd.V_below (Kd.V_elderB (by (with_reducible repeat (first | apply Kd.V_alloc | apply Kd.V_drewN | apply Kd.V_drew)); exact HO_2.out) gb1102 (Nat.le_of_eq hg.symm)) hb)
                                have n2_ := Aside0.mk (Kd.R_below (rs HO1101) hb)
                                have n3_ := Aside0.mk (blk_below (g := gb1088) (o := .cells #[.int .i64 0, .slice none 0 0, .slice none 0 0] 52 (0, 0)) (by (with_reducible repeat (first | refine blk_drewN ?_ _ | refine blk_drew ?_ | refine blk_alloc ?_ _)); exact BK1088.out) hb)
                                have n4_ := Aside0.mk (below_step (by repeat (first | (with_reducible first | exact HB.out | apply below_alloc | apply pw_below_drewN | apply below_drew1 | refine below_set ?_ GE1088.out) | exact HB.out)) hb)
                                have n5_ := Aside0.mk (hbox)
                                have n6_ := Aside0.mk ((by rw [hg]; exact (below_size (by repeat (first | (with_reducible first | exact HB.out | apply below_alloc | apply pw_below_drewN | apply below_drew1 | refine below_set ?_ GE1088.out) | exact HB.out))) : w.heap.size ≤ gb1102))
                                have n7_ := Aside0.mk ((by rw [hg]; exact (below_size (by repeat (first | (with_reducible first | exact HB.out | apply below_alloc | apply pw_below_drewN | apply below_drew1 | refine below_set ?_ GE1088.out) | exact HB.out))) : w.heap.size ≤ gb1102))
                                have n8_ := Aside0.mk ((by rw [hg]; exact Nat.ne_of_lt (blk_lt (g := gb1088) (o := .cells #[.int .i64 0, .slice none 0 0, .slice none 0 0] 52 (0, 0)) (by (with_reducible repeat (first | refine blk_drewN ?_ _ | refine blk_drew ?_ | refine blk_alloc ?_ _)); exact BK1088.out)) : gb1088 ≠ gb1102))
                                have n9_ := Aside0.mk ((by rw [hg]; exact Nat.ne_of_gt (blk_lt (g := gb1088) (o := .cells #[.int .i64 0, .slice none 0 0, .slice none 0 0] 52 (0, 0)) (by (with_reducible repeat (first | refine blk_drewN ?_ _ | refine blk_drew ?_ | refine blk_alloc ?_ _)); exact BK1088.out)) : gb1102 ≠ gb1088))
                                clear HO_1
                                clear HO_2
                                clear HO1101
                                clear BK1088
                                clear HB
                                have HO_1 := n0_
                                have HO_2 := n1_
                                have HO1101 := n2_
                                have BK1088 := n3_
                                have HB := n4_
                                have BK1102 := n5_
                                have GW1102 := n6_
                                have GE1102 := n7_
                                have NB1088_1102 := n8_
                                have NB1102_1088 := n9_
                                clear n0_ n1_ n2_ n3_ n4_ n5_ n6_ n7_ n8_ n9_
                                clear hb hbox hg
                                refine hK.out _ _ trivial (fun hHeld => ?_)
                                clear hK K
                                refine norm_ (a' := ?_) ?_ ?_
                                rotate_left
                                · show Act.put _ (some 12) _ = _
                                  simp only [Act.put, List.setIfInBounds_toArray, List.set_cons_zero, List.set_cons_succ, i64_w, i32_w]
                                  rfl
                                exact norm_ (by first | (simp only [putAll, Act.put, List.setIfInBounds_toArray, List.set_cons_zero, List.set_cons_succ]; done) | (simp only [putAll, Act.put, List.setIfInBounds_toArray, List.set_cons_zero, List.set_cons_succ]; rfl)) (hJ4_6 (v1100, gb1102) _ ⟨(rs HO1101), (by (with_reducible repeat (first | apply Kd.V_alloc | apply Kd.V_drewN | apply Kd.V_drew)); exact Kd.V_mono HO_1.out (fun _ hk => ⟨hk.1.1, ⟨hk.1.2.1, ⟨hk.1.2.2, hk.2⟩⟩⟩)), (by (with_reducible repeat (first | apply Kd.V_alloc | apply Kd.V_drewN | apply Kd.V_drew)); exact Kd.V_mono HO_2.out (fun _ hk => ⟨hk.1.1, ⟨hk.1.2.1, ⟨hk.1.2.2, hk.2⟩⟩⟩)), (by (with_reducible repeat (first | refine blk_drewN ?_ _ | refine blk_drew ?_ | refine blk_alloc ?_ _)); exact BK1088.out), (by (with_reducible repeat (first | refine blk_drewN ?_ _ | refine blk_drew ?_ | refine blk_alloc ?_ _)); exact BK1102.out), GW1102.out, GE1102.out, NB1088_1102.out, NB1102_1088.out, (by repeat (first | (with_reducible first | exact HB.out | apply below_alloc | apply pw_below_drewN | apply below_drew1 | refine below_set ?_ GE1088.out | refine below_set ?_ GE1102.out) | exact HB.out))⟩)
                          · skip
                            rintro v1097 w30 ⟨h0_, h1_, h2_, h3_, h4_⟩
                            have n0_ : Aside0 (Kd.R (Kd.int .i64) 2 w30 w.heap.size (fun k_ => (w.heap.size ≤ k_)) v1097 y1096) := ⟨h0_⟩
                            have n1_ : Aside0 (Kd.V (Kd.int .i64) 2 w30 w.heap.size (fun k_ => ((P1_ k_ ∨ P2_ k_) ∨ w.heap.size ≤ k_) ∧ some k_ ≠ (v1097 : Value).ownBlock ∧ k_ ≠ gb1088) (.slice A1 l1.length c1) l1) := ⟨h1_⟩
                            have n2_ : Aside0 (Kd.V (Kd.int .i64) 2 w30 w.heap.size (fun k_ => ((P1_ k_ ∨ P2_ k_) ∨ w.heap.size ≤ k_) ∧ some k_ ≠ (v1097 : Value).ownBlock ∧ k_ ≠ gb1088) (.slice A2 l2.length c2) l2) := ⟨h2_⟩
                            have n3_ : Aside0 (w30.heap[gb1088]? = some (.cells #[.int .i64 0, .slice none 0 0, .slice none 0 0] 52 (0, 0))) := ⟨h3_⟩
                            have n4_ : Aside0 (Below w.heap.size w w30) := ⟨h4_⟩
                            clear HO_1
                            clear HO_2
                            clear BK1088
                            clear HB
                            clear h0_ h1_ h2_ h3_ h4_
                            have HO1098 := n0_
                            have HO_1 := n1_
                            have HO_2 := n2_
                            have BK1088 := n3_
                            have HB := n4_
                            clear n0_ n1_ n2_ n3_ n4_
                            have hHeld := trivial
                            refine norm_ (a' := ?_) ?_ ?_
                            rotate_left
                            · simp only [putAll, Act.put, List.setIfInBounds_toArray, List.set_cons_zero, List.set_cons_succ]
                              rfl
                            refine two_ (i := 4) (j := 6) (Ni := some 62) (Nj := some 12) #[true, true, true, true, true, false, false, false] #[true, true, true, true, false, false, true, false] rfl rfl rfl rfl (two_of HT_.out (by kernel_rfl)) (by decide) (by decide) (fun K hK => ?_) (fun K hK => ?_)
                            · skip
                              refine Kd.R_make_step (Kd.int .i64) _ 2 (by rfl) (N := 62) rfl 22 _ _ rfl (ji22) rfl rfl Try.underlying22 (.int .i64 0) 8 info2 rfl (by decide) (by omega) 0 (ok := fun _ => True) (okp := fun _ => True) rfl (fun _ hk => hk) trivial (of_decide_eq_true (by first | (with_reducible assumption) | assumption)) (Nat.le_trans (Nat.mul_le_mul_right _ (of_decide_eq_true (by first | (with_reducible assumption) | assumption) : (ji22).toNat ≤ 35184372088832)) (by omega)) (Below.refl _ _) (Nat.le_refl _) ?_
                              intro v1100 w31 ho32 hb hg_ hnew_
                              clear hg_ hnew_
                              (first | rw [← Ny1099.out] at ho32 | (simp only [Int.reduceToNat] at ho32; rw [← Ny1099.out] at ho32))
                              have n0_ := Aside0.mk (Kd.V_elder' (by (with_reducible repeat (first | apply Kd.V_alloc | apply Kd.V_drewN | apply Kd.V_drew)); exact HO_1.out) (Kd.R_base ho32) hb)
                              have n1_ := Aside0.mk (Kd.V_elder' (by (with_reducible repeat (first | apply Kd.V_alloc | apply Kd.V_drewN | apply Kd.V_drew)); exact HO_2.out) (Kd.R_base ho32) hb)
                              have n2_ := Aside0.mk (Kd.R_elder' (rs HO1098) (Kd.R_base ho32) hb)
                              have n3_ := Aside0.mk (Kd.R_lower (Kd.R_new' (Kd.R_newM (M := fun k_ => (w.heap.size ≤ k_)) ho32 (below_size (by repeat (first | (with_reducible first | exact HB.out | apply below_alloc | apply pw_below_drewN | apply below_drew1 | refine below_set ?_ GE1088.out) | exact HB.out))) (fun k_ h_ => h_)) (Kd.R_lt (rs HO1098))) (below_size (by repeat (first | (with_reducible first | exact HB.out | apply below_alloc | apply pw_below_drewN | apply below_drew1 | refine below_set ?_ GE1088.out) | exact HB.out))))
                              have n4_ := Aside0.mk (blk_below (g := gb1088) (o := .cells #[.int .i64 0, .slice none 0 0, .slice none 0 0] 52 (0, 0)) (by (with_reducible repeat (first | refine blk_drewN ?_ _ | refine blk_drew ?_ | refine blk_alloc ?_ _)); exact BK1088.out) hb)
                              have n5_ := Aside0.mk (below_step (by repeat (first | (with_reducible first | exact HB.out | apply below_alloc | apply pw_below_drewN | apply below_drew1 | refine below_set ?_ GE1088.out) | exact HB.out)) hb)
                              clear HO_1
                              clear HO_2
                              clear HO1098
                              clear BK1088
                              clear HB
                              have HO_1 := n0_
                              have HO_2 := n1_
                              have HO1098 := n2_
                              have HO1101 := n3_
                              have BK1088 := n4_
                              have HB := n5_
                              clear n0_ n1_ n2_ n3_ n4_ n5_
                              clear hb ho32
                              obtain ⟨Ao33, co33, eo33⟩ := Kd.R_slice HO1101.out
                              (first | subst eo33 | (injection eo33 with f1_ f2_ f3_; have f4_ := f1_.symm; have f5_ := f3_.symm; clear f1_ f2_ f3_; subst f4_; subst f5_))
                              obtain ⟨Ao34, co34, eo34⟩ := Kd.R_slice HO1098.out
                              (first | subst eo34 | (injection eo34 with f1_ f2_ f3_; have f4_ := f1_.symm; have f5_ := f3_.symm; clear f1_ f2_ f3_; subst f4_; subst f5_))
                              refine hK.out _ _ trivial (fun hHeld => ?_)
                              clear hK K
                              refine norm_ (a' := ?_) ?_ ?_
                              rotate_left
                              · show Act.put _ (some 62) _ = _
                                simp only [Act.put, List.setIfInBounds_toArray, List.set_cons_zero, List.set_cons_succ, i64_w, i32_w]
                                rfl
                              refine pure_ (i := 5) (N := some 63) (v := ?_) (a' := ?_) #[true, true, true, true, true, true, false, false] rfl rfl (any_of HT_.out (by kernel_rfl)) (fun _ _ _ h => h) (Or.inl ⟨by rfl, ?_⟩) ?_ ?_
                              rotate_left
                              · intro w'
                                go_simp
                                with_reducible rfl
                              rotate_left
                              · simp only [Act.put, List.setIfInBounds_toArray, List.set_cons_zero, List.set_cons_succ, i64_w, i32_w]
                                rfl
                              exact norm_ (by first | (simp only [putAll, Act.put, List.setIfInBounds_toArray, List.set_cons_zero, List.set_cons_succ]; done) | (simp only [putAll, Act.put, List.setIfInBounds_toArray, List.set_cons_zero, List.set_cons_succ]; rfl)) (hJ2_4 (.slice Ao34 y1096.length co34, .slice Ao33 y1099.length co33) _ ⟨(rs HO1098), (by (with_reducible repeat (first | apply Kd.R_alloc | apply Kd.R_drewN | apply Kd.R_drew)); exact Kd.R_mono HO1101.out (fun _ hk => ⟨hk.1.1, hk.2⟩)), (by (with_reducible repeat (first | apply Kd.V_alloc | apply Kd.V_drewN | apply Kd.V_drew)); exact Kd.V_mono HO_1.out (fun _ hk => ⟨hk.1.1, ⟨hk.1.2.1, ⟨hk.2, hk.1.2.2⟩⟩⟩)), (by (with_reducible repeat (first | apply Kd.V_alloc | apply Kd.V_drewN | apply Kd.V_drew)); exact Kd.V_mono HO_2.out (fun _ hk => ⟨hk.1.1, ⟨hk.1.2.1, ⟨hk.2, hk.1.2.2⟩⟩⟩)), (by (with_reducible repeat (first | refine blk_drewN ?_ _ | refine blk_drew ?_ | refine blk_alloc ?_ _)); exact BK1088.out), (by repeat (first | (with_reducible first | exact HB.out | apply below_alloc | apply pw_below_drewN | apply below_drew1 | refine below_set ?_ GE1088.out) | exact HB.out))⟩)
                            · skip
                              refine box_step ?hg (N := 12) ?hd (cs := #[.int .i64 0, .slice none 0 0, .slice none 0 0]) (t := 52) ?hr ?_; (case hd => rfl); (case hg => rfl); (case hr => first | (go_simp; done) | (go_simp; rfl))
                              intro gb1102 hg w31 hbox hb
                              have n0_ := Aside0.mk (Kd.V_below (Kd.V_elderB (by (with_reducible repeat (first | apply Kd.V_alloc | apply Kd.V_drewN | apply Kd.V_drew)); exact HO_1.out) gb1102 (Nat.le_of_eq hg.symm)) hb)
                              have n1_ := Aside0.mk (Kd.V_below (Kd.V_elderB (by (with_reducible repeat (first | apply Kd.V_alloc | apply Kd.V_drewN | apply Kd.V_drew)); exact HO_2.out) gb1102 (Nat.le_of_eq hg.symm)) hb)
                              have n2_ := Aside0.mk (Kd.R_below (rs HO1098) hb)
                              have n3_ := Aside0.mk (blk_below (g := gb1088) (o := .cells #[.int .i64 0, .slice none 0 0, .slice none 0 0] 52 (0, 0)) (by (with_reducible repeat (first | refine blk_drewN ?_ _ | refine blk_drew ?_ | refine blk_alloc ?_ _)); exact BK1088.out) hb)
                              have n4_ := Aside0.mk (below_step (by repeat (first | (with_reducible first | exact HB.out | apply below_alloc | apply pw_below_drewN | apply below_drew1 | refine below_set ?_ GE1088.out) | exact HB.out)) hb)
                              have n5_ := Aside0.mk (hbox)
                              have n6_ := Aside0.mk ((by rw [hg]; exact (below_size (by repeat (first | (with_reducible first | exact HB.out | apply below_alloc | apply pw_below_drewN | apply below_drew1 | refine below_set ?_ GE1088.out) | exact HB.out))) : w.heap.size ≤ gb1102))
                              have n7_ := Aside0.mk ((by rw [hg]; exact (below_size (by repeat (first | (with_reducible first | exact HB.out | apply below_alloc | apply pw_below_drewN | apply below_drew1 | refine below_set ?_ GE1088.out) | exact HB.out))) : w.heap.size ≤ gb1102))
                              have n8_ := Aside0.mk ((by rw [hg]; exact Nat.ne_of_lt (blk_lt (g := gb1088) (o := .cells #[.int .i64 0, .slice none 0 0, .slice none 0 0] 52 (0, 0)) (by (with_reducible repeat (first | refine blk_drewN ?_ _ | refine blk_drew ?_ | refine blk_alloc ?_ _)); exact BK1088.out)) : gb1088 ≠ gb1102))
                              have n9_ := Aside0.mk ((by rw [hg]; exact Nat.ne_of_gt (blk_lt (g := gb1088) (o := .cells #[.int .i64 0, .slice none 0 0, .slice none 0 0] 52 (0, 0)) (by (with_reducible repeat (first | refine blk_drewN ?_ _ | refine blk_drew ?_ | refine blk_alloc ?_ _)); exact BK1088.out)) : gb1102 ≠ gb1088))
                              clear HO_1
                              clear HO_2
                              clear HO1098
                              clear BK1088
                              clear HB
                              have HO_1 := n0_
                              have HO_2 := n1_
                              have HO1098 := n2_
                              have BK1088 := n3_
                              have HB := n4_
                              have BK1102 := n5_
                              have GW1102 := n6_
                              have GE1102 := n7_
                              have NB1088_1102 := n8_
                              have NB1102_1088 := n9_
                              clear n0_ n1_ n2_ n3_ n4_ n5_ n6_ n7_ n8_ n9_
                              clear hb hbox hg
                              refine hK.out _ _ trivial (fun hHeld => ?_)
                              clear hK K
                              refine norm_ (a' := ?_) ?_ ?_
                              rotate_left
                              · show Act.put _ (some 12) _ = _
                                simp only [Act.put, List.setIfInBounds_toArray, List.set_cons_zero, List.set_cons_succ, i64_w, i32_w]
                                rfl
                              exact norm_ (by first | (simp only [putAll, Act.put, List.setIfInBounds_toArray, List.set_cons_zero, List.set_cons_succ]; done) | (simp only [putAll, Act.put, List.setIfInBounds_toArray, List.set_cons_zero, List.set_cons_succ]; rfl)) (hJ2_6 (v1097, gb1102) _ ⟨(rs HO1098), (by (with_reducible repeat (first | apply Kd.V_alloc | apply Kd.V_drewN | apply Kd.V_drew)); exact Kd.V_mono HO_1.out (fun _ hk => ⟨hk.1.1, ⟨hk.1.2.1, ⟨hk.1.2.2, hk.2⟩⟩⟩)), (by (with_reducible repeat (first | apply Kd.V_alloc | apply Kd.V_drewN | apply Kd.V_drew)); exact Kd.V_mono HO_2.out (fun _ hk => ⟨hk.1.1, ⟨hk.1.2.1, ⟨hk.1.2.2, hk.2⟩⟩⟩)), (by (with_reducible repeat (first | refine blk_drewN ?_ _ | refine blk_drew ?_ | refine blk_alloc ?_ _)); exact BK1088.out), (by (with_reducible repeat (first | refine blk_drewN ?_ _ | refine blk_drew ?_ | refine blk_alloc ?_ _)); exact BK1102.out), GW1102.out, GE1102.out, NB1088_1102.out, NB1102_1088.out, (by repeat (first | (with_reducible first | exact HB.out | apply below_alloc | apply pw_below_drewN | apply below_drew1 | refine below_set ?_ GE1088.out | refine below_set ?_ GE1102.out) | exact HB.out))⟩)
                        · skip
                          rintro ⟨v1100, gb1102⟩ w31 ⟨h0_, h1_, h2_, h3_, h4_, h5_, h6_, h7_, h8_, h9_⟩
                          have n0_ : Aside0 (Kd.R (Kd.int .i64) 2 w31 w.heap.size (fun k_ => (w.heap.size ≤ k_)) v1100 y1099) := ⟨h0_⟩
                          have n1_ : Aside0 (Kd.V (Kd.int .i64) 2 w31 w.heap.size (fun k_ => ((P1_ k_ ∨ P2_ k_) ∨ w.heap.size ≤ k_) ∧ some k_ ≠ (v1100 : Value).ownBlock ∧ k_ ≠ gb1088 ∧ k_ ≠ gb1102) (.slice A1 l1.length c1) l1) := ⟨h1_⟩
                          have n2_ : Aside0 (Kd.V (Kd.int .i64) 2 w31 w.heap.size (fun k_ => ((P1_ k_ ∨ P2_ k_) ∨ w.heap.size ≤ k_) ∧ some k_ ≠ (v1100 : Value).ownBlock ∧ k_ ≠ gb1088 ∧ k_ ≠ gb1102) (.slice A2 l2.length c2) l2) := ⟨h2_⟩
                          have n3_ : Aside0 (w31.heap[gb1088]? = some (.cells #[.int .i64 0, .slice none 0 0, .slice none 0 0] 52 (0, 0))) := ⟨h3_⟩
                          have n4_ : Aside0 (w31.heap[gb1102]? = some (.cells #[.int .i64 0, .slice none 0 0, .slice none 0 0] 52 (0, 0))) := ⟨h4_⟩
                          have n5_ : Aside0 (w.heap.size ≤ gb1102) := ⟨h5_⟩
                          have n6_ : Aside0 (w.heap.size ≤ gb1102) := ⟨h6_⟩
                          have n7_ : Aside0 (gb1088 ≠ gb1102) := ⟨h7_⟩
                          have n8_ : Aside0 (gb1102 ≠ gb1088) := ⟨h8_⟩
                          have n9_ : Aside0 (Below w.heap.size w w31) := ⟨h9_⟩
                          clear HO_1
                          clear HO_2
                          clear BK1088
                          clear HB
                          clear h0_ h1_ h2_ h3_ h4_ h5_ h6_ h7_ h8_ h9_
                          have HO1101 := n0_
                          have HO_1 := n1_
                          have HO_2 := n2_
                          have BK1088 := n3_
                          have BK1102 := n4_
                          have GW1102 := n5_
                          have GE1102 := n6_
                          have NB1088_1102 := n7_
                          have NB1102_1088 := n8_
                          have HB := n9_
                          clear n0_ n1_ n2_ n3_ n4_ n5_ n6_ n7_ n8_ n9_
                          have hHeld := trivial
                          refine norm_ (a' := ?_) ?_ ?_
                          rotate_left
                          · simp only [putAll, Act.put, List.setIfInBounds_toArray, List.set_cons_zero, List.set_cons_succ]
                            rfl
                          refine one_ (i := 2) (N := some 60) #[true, true, true, true, true, false, true, false] rfl rfl (one_of HT_.out (by kernel_rfl)) (by decide) (fun K hK => ?_)
                          refine Kd.R_make_step (Kd.int .i64) _ 2 (by rfl) (N := 60) rfl 22 _ _ rfl (ji22) rfl rfl Try.underlying22 (.int .i64 0) 8 info2 rfl (by decide) (by omega) 0 (ok := fun _ => True) (okp := fun _ => True) rfl (fun _ hk => hk) trivial (of_decide_eq_true (by first | (with_reducible assumption) | assumption)) (Nat.le_trans (Nat.mul_le_mul_right _ (of_decide_eq_true (by first | (with_reducible assumption) | assumption) : (ji22).toNat ≤ 35184372088832)) (by omega)) (Below.refl _ _) (Nat.le_refl _) ?_
                          intro v1097 w32 ho33 hb hg_ hnew_
                          clear hg_ hnew_
                          (first | rw [← Ny1096.out] at ho33 | (simp only [Int.reduceToNat] at ho33; rw [← Ny1096.out] at ho33))
                          have n0_ := Aside0.mk (Kd.V_elder' (by (with_reducible repeat (first | apply Kd.V_alloc | apply Kd.V_drewN | apply Kd.V_drew)); exact HO_1.out) (Kd.R_base ho33) hb)
                          have n1_ := Aside0.mk (Kd.V_elder' (by (with_reducible repeat (first | apply Kd.V_alloc | apply Kd.V_drewN | apply Kd.V_drew)); exact HO_2.out) (Kd.R_base ho33) hb)
                          have n2_ := Aside0.mk (Kd.R_elder' (rs HO1101) (Kd.R_base ho33) hb)
                          have n3_ := Aside0.mk (Kd.R_lower (Kd.R_new' (Kd.R_newM (M := fun k_ => (w.heap.size ≤ k_)) ho33 (below_size (by repeat (first | (with_reducible first | exact HB.out | apply below_alloc | apply pw_below_drewN | apply below_drew1 | refine below_set ?_ GE1088.out | refine below_set ?_ GE1102.out) | exact HB.out))) (fun k_ h_ => h_)) (Kd.R_lt (rs HO1101))) (below_size (by repeat (first | (with_reducible first | exact HB.out | apply below_alloc | apply pw_below_drewN | apply below_drew1 | refine below_set ?_ GE1088.out | refine below_set ?_ GE1102.out) | exact HB.out))))
                          have n4_ := Aside0.mk (blk_below (g := gb1088) (o := .cells #[.int .i64 0, .slice none 0 0, .slice none 0 0] 52 (0, 0)) (by (with_reducible repeat (first | refine blk_drewN ?_ _ | refine blk_drew ?_ | refine blk_alloc ?_ _)); exact BK1088.out) hb)
                          have n5_ := Aside0.mk (blk_below (g := gb1102) (o := .cells #[.int .i64 0, .slice none 0 0, .slice none 0 0] 52 (0, 0)) (by (with_reducible repeat (first | refine blk_drewN ?_ _ | refine blk_drew ?_ | refine blk_alloc ?_ _)); exact BK1102.out) hb)
                          have n6_ := Aside0.mk (below_step (by repeat (first | (with_reducible first | exact HB.out | apply below_alloc | apply pw_below_drewN | apply below_drew1 | refine below_set ?_ GE1088.out | refine below_set ?_ GE1102.out) | exact HB.out)) hb)
                          clear HO_1
                          clear HO_2
                          clear HO1101
                          clear BK1088
                          clear BK1102
                          clear HB
                          have HO_1 := n0_
                          have HO_2 := n1_
                          have HO1101 := n2_
                          have HO1098 := n3_
                          have BK1088 := n4_
                          have BK1102 := n5_
                          have HB := n6_
                          clear n0_ n1_ n2_ n3_ n4_ n5_ n6_
                          clear hb ho33
                          obtain ⟨Ao34, co34, eo34⟩ := Kd.R_slice HO1101.out
                          (first | subst eo34 | (injection eo34 with f1_ f2_ f3_; have f4_ := f1_.symm; have f5_ := f3_.symm; clear f1_ f2_ f3_; subst f4_; subst f5_))
                          obtain ⟨Ao35, co35, eo35⟩ := Kd.R_slice HO1098.out
                          (first | subst eo35 | (injection eo35 with f1_ f2_ f3_; have f4_ := f1_.symm; have f5_ := f3_.symm; clear f1_ f2_ f3_; subst f4_; subst f5_))
                          refine hK.out _ _ trivial (fun hHeld => ?_)
                          clear hK K
                          refine norm_ (a' := ?_) ?_ ?_
                          rotate_left
                          · show Act.put _ (some 60) _ = _
                            simp only [Act.put, List.setIfInBounds_toArray, List.set_cons_zero, List.set_cons_succ, i64_w, i32_w]
                            rfl
                          refine pure_ (i := 5) (N := some 63) (v := ?_) (a' := ?_) #[true, true, true, true, true, true, true, false] rfl rfl (any_of HT_.out (by kernel_rfl)) (fun _ _ _ h => h) (Or.inl ⟨by rfl, ?_⟩) ?_ ?_
                          rotate_left
                          · intro w'
                            go_simp
                            with_reducible rfl
                          rotate_left
                          · simp only [Act.put, List.setIfInBounds_toArray, List.set_cons_zero, List.set_cons_succ, i64_w, i32_w]
                            rfl
                          exact norm_ (by first | (simp only [putAll, Act.put, List.setIfInBounds_toArray, List.set_cons_zero, List.set_cons_succ]; done) | (simp only [putAll, Act.put, List.setIfInBounds_toArray, List.set_cons_zero, List.set_cons_succ]; rfl)) (hJ2_4_6 (.slice Ao35 y1096.length co35, .slice Ao34 y1099.length co34, gb1102) _ ⟨(by (with_reducible repeat (first | apply Kd.R_alloc | apply Kd.R_drewN | apply Kd.R_drew)); exact Kd.R_mono HO1098.out (fun _ hk => ⟨hk.1.1, hk.2⟩)), (rs HO1101), (by (with_reducible repeat (first | apply Kd.V_alloc | apply Kd.V_drewN | apply Kd.V_drew)); exact Kd.V_mono HO_1.out (fun _ hk => ⟨hk.1.1, ⟨hk.2, ⟨hk.1.2.1, ⟨hk.1.2.2.1, hk.1.2.2.2⟩⟩⟩⟩)), (by (with_reducible repeat (first | apply Kd.V_alloc | apply Kd.V_drewN | apply Kd.V_drew)); exact Kd.V_mono HO_2.out (fun _ hk => ⟨hk.1.1, ⟨hk.2, ⟨hk.1.2.1, ⟨hk.1.2.2.1, hk.1.2.2.2⟩⟩⟩⟩)), (by (with_reducible repeat (first | refine blk_drewN ?_ _ | refine blk_drew ?_ | refine blk_alloc ?_ _)); exact BK1088.out), (by (with_reducible repeat (first | refine blk_drewN ?_ _ | refine blk_drew ?_ | refine blk_alloc ?_ _)); exact BK1102.out), GW1102.out, GE1102.out, NB1088_1102.out, NB1102_1088.out, (by repeat (first | (with_reducible first | exact HB.out | apply below_alloc | apply pw_below_drewN | apply below_drew1 | refine below_set ?_ GE1088.out | refine below_set ?_ GE1102.out) | exact HB.out))⟩)
                      · skip
                        rintro ⟨v1097, gb1102⟩ w31 ⟨h0_, h1_, h2_, h3_, h4_, h5_, h6_, h7_, h8_, h9_⟩
                        have n0_ : Aside0 (Kd.R (Kd.int .i64) 2 w31 w.heap.size (fun k_ => (w.heap.size ≤ k_)) v1097 y1096) := ⟨h0_⟩
                        have n1_ : Aside0 (Kd.V (Kd.int .i64) 2 w31 w.heap.size (fun k_ => ((P1_ k_ ∨ P2_ k_) ∨ w.heap.size ≤ k_) ∧ some k_ ≠ (v1097 : Value).ownBlock ∧ k_ ≠ gb1088 ∧ k_ ≠ gb1102) (.slice A1 l1.length c1) l1) := ⟨h1_⟩
                        have n2_ : Aside0 (Kd.V (Kd.int .i64) 2 w31 w.heap.size (fun k_ => ((P1_ k_ ∨ P2_ k_) ∨ w.heap.size ≤ k_) ∧ some k_ ≠ (v1097 : Value).ownBlock ∧ k_ ≠ gb1088 ∧ k_ ≠ gb1102) (.slice A2 l2.length c2) l2) := ⟨h2_⟩
                        have n3_ : Aside0 (w31.heap[gb1088]? = some (.cells #[.int .i64 0, .slice none 0 0, .slice none 0 0] 52 (0, 0))) := ⟨h3_⟩
                        have n4_ : Aside0 (w31.heap[gb1102]? = some (.cells #[.int .i64 0, .slice none 0 0, .slice none 0 0] 52 (0, 0))) := ⟨h4_⟩
                        have n5_ : Aside0 (w.heap.size ≤ gb1102) := ⟨h5_⟩
                        have n6_ : Aside0 (w.heap.size ≤ gb1102) := ⟨h6_⟩
                        have n7_ : Aside0 (gb1088 ≠ gb1102) := ⟨h7_⟩
                        have n8_ : Aside0 (gb1102 ≠ gb1088) := ⟨h8_⟩
                        have n9_ : Aside0 (Below w.heap.size w w31) := ⟨h9_⟩
                        clear HO_1
                        clear HO_2
                        clear BK1088
                        clear HB
                        clear h0_ h1_ h2_ h3_ h4_ h5_ h6_ h7_ h8_ h9_
                        have HO1098 := n0_
                        have HO_1 := n1_
                        have HO_2 := n2_
                        have BK1088 := n3_
                        have BK1102 := n4_
                        have GW1102 := n5_
                        have GE1102 := n6_
                        have NB1088_1102 := n7_
                        have NB1102_1088 := n8_
                        have HB := n9_
                        clear n0_ n1_ n2_ n3_ n4_ n5_ n6_ n7_ n8_ n9_
                        have hHeld := trivial
                        refine norm_ (a' := ?_) ?_ ?_
                        rotate_left
                        · simp only [putAll, Act.put, List.setIfInBounds_toArray, List.set_cons_zero, List.set_cons_succ]
                          rfl
                        refine one_ (i := 4) (N := some 62) #[true, true, true, true, true, false, true, false] rfl rfl (one_of HT_.out (by kernel_rfl)) (by decide) (fun K hK => ?_)
                        refine Kd.R_make_step (Kd.int .i64) _ 2 (by rfl) (N := 62) rfl 22 _ _ rfl (ji22) rfl rfl Try.underlying22 (.int .i64 0) 8 info2 rfl (by decide) (by omega) 0 (ok := fun _ => True) (okp := fun _ => True) rfl (fun _ hk => hk) trivial (of_decide_eq_true (by first | (with_reducible assumption) | assumption)) (Nat.le_trans (Nat.mul_le_mul_right _ (of_decide_eq_true (by first | (with_reducible assumption) | assumption) : (ji22).toNat ≤ 35184372088832)) (by omega)) (Below.refl _ _) (Nat.le_refl _) ?_
                        intro v1100 w32 ho33 hb hg_ hnew_
                        clear hg_ hnew_
                        (first | rw [← Ny1099.out] at ho33 | (simp only [Int.reduceToNat] at ho33; rw [← Ny1099.out] at ho33))
                        have n0_ := Aside0.mk (Kd.V_elder' (by (with_reducible repeat (first | apply Kd.V_alloc | apply Kd.V_drewN | apply Kd.V_drew)); exact HO_1.out) (Kd.R_base ho33) hb)
                        have n1_ := Aside0.mk (Kd.V_elder' (by (with_reducible repeat (first | apply Kd.V_alloc | apply Kd.V_drewN | apply Kd.V_drew)); exact HO_2.out) (Kd.R_base ho33) hb)
                        have n2_ := Aside0.mk (Kd.R_elder' (rs HO1098) (Kd.R_base ho33) hb)
                        have n3_ := Aside0.mk (Kd.R_lower (Kd.R_new' (Kd.R_newM (M := fun k_ => (w.heap.size ≤ k_)) ho33 (below_size (by repeat (first | (with_reducible first | exact HB.out | apply below_alloc | apply pw_below_drewN | apply below_drew1 | refine below_set ?_ GE1088.out | refine below_set ?_ GE1102.out) | exact HB.out))) (fun k_ h_ => h_)) (Kd.R_lt (rs HO1098))) (below_size (by repeat (first | (with_reducible first | exact HB.out | apply below_alloc | apply pw_below_drewN | apply below_drew1 | refine below_set ?_ GE1088.out | refine below_set ?_ GE1102.out) | exact HB.out))))
                        have n4_ := Aside0.mk (blk_below (g := gb1088) (o := .cells #[.int .i64 0, .slice none 0 0, .slice none 0 0] 52 (0, 0)) (by (with_reducible repeat (first | refine blk_drewN ?_ _ | refine blk_drew ?_ | refine blk_alloc ?_ _)); exact BK1088.out) hb)
                        have n5_ := Aside0.mk (blk_below (g := gb1102) (o := .cells #[.int .i64 0, .slice none 0 0, .slice none 0 0] 52 (0, 0)) (by (with_reducible repeat (first | refine blk_drewN ?_ _ | refine blk_drew ?_ | refine blk_alloc ?_ _)); exact BK1102.out) hb)
                        have n6_ := Aside0.mk (below_step (by repeat (first | (with_reducible first | exact HB.out | apply below_alloc | apply pw_below_drewN | apply below_drew1 | refine below_set ?_ GE1088.out | refine below_set ?_ GE1102.out) | exact HB.out)) hb)
                        clear HO_1
                        clear HO_2
                        clear HO1098
                        clear BK1088
                        clear BK1102
                        clear HB
                        have HO_1 := n0_
                        have HO_2 := n1_
                        have HO1098 := n2_
                        have HO1101 := n3_
                        have BK1088 := n4_
                        have BK1102 := n5_
                        have HB := n6_
                        clear n0_ n1_ n2_ n3_ n4_ n5_ n6_
                        clear hb ho33
                        obtain ⟨Ao34, co34, eo34⟩ := Kd.R_slice HO1101.out
                        (first | subst eo34 | (injection eo34 with f1_ f2_ f3_; have f4_ := f1_.symm; have f5_ := f3_.symm; clear f1_ f2_ f3_; subst f4_; subst f5_))
                        obtain ⟨Ao35, co35, eo35⟩ := Kd.R_slice HO1098.out
                        (first | subst eo35 | (injection eo35 with f1_ f2_ f3_; have f4_ := f1_.symm; have f5_ := f3_.symm; clear f1_ f2_ f3_; subst f4_; subst f5_))
                        refine hK.out _ _ trivial (fun hHeld => ?_)
                        clear hK K
                        refine norm_ (a' := ?_) ?_ ?_
                        rotate_left
                        · show Act.put _ (some 62) _ = _
                          simp only [Act.put, List.setIfInBounds_toArray, List.set_cons_zero, List.set_cons_succ, i64_w, i32_w]
                          rfl
                        refine pure_ (i := 5) (N := some 63) (v := ?_) (a' := ?_) #[true, true, true, true, true, true, true, false] rfl rfl (any_of HT_.out (by kernel_rfl)) (fun _ _ _ h => h) (Or.inl ⟨by rfl, ?_⟩) ?_ ?_
                        rotate_left
                        · intro w'
                          go_simp
                          with_reducible rfl
                        rotate_left
                        · simp only [Act.put, List.setIfInBounds_toArray, List.set_cons_zero, List.set_cons_succ, i64_w, i32_w]
                          rfl
                        exact norm_ (by first | (simp only [putAll, Act.put, List.setIfInBounds_toArray, List.set_cons_zero, List.set_cons_succ]; done) | (simp only [putAll, Act.put, List.setIfInBounds_toArray, List.set_cons_zero, List.set_cons_succ]; rfl)) (hJ2_4_6 (.slice Ao35 y1096.length co35, .slice Ao34 y1099.length co34, gb1102) _ ⟨(rs HO1098), (by (with_reducible repeat (first | apply Kd.R_alloc | apply Kd.R_drewN | apply Kd.R_drew)); exact Kd.R_mono HO1101.out (fun _ hk => ⟨hk.1.1, hk.2⟩)), (by (with_reducible repeat (first | apply Kd.V_alloc | apply Kd.V_drewN | apply Kd.V_drew)); exact Kd.V_mono HO_1.out (fun _ hk => ⟨hk.1.1, ⟨hk.1.2.1, ⟨hk.2, ⟨hk.1.2.2.1, hk.1.2.2.2⟩⟩⟩⟩)), (by (with_reducible repeat (first | apply Kd.V_alloc | apply Kd.V_drewN | apply Kd.V_drew)); exact Kd.V_mono HO_2.out (fun _ hk => ⟨hk.1.1, ⟨hk.1.2.1, ⟨hk.2, ⟨hk.1.2.2.1, hk.1.2.2.2⟩⟩⟩⟩)), (by (with_reducible repeat (first | refine blk_drewN ?_ _ | refine blk_drew ?_ | refine blk_alloc ?_ _)); exact BK1088.out), (by (with_reducible repeat (first | refine blk_drewN ?_ _ | refine blk_drew ?_ | refine blk_alloc ?_ _)); exact BK1102.out), GW1102.out, GE1102.out, NB1088_1102.out, NB1102_1088.out, (by repeat (first | (with_reducible first | exact HB.out | apply below_alloc | apply pw_below_drewN | apply below_drew1 | refine below_set ?_ GE1088.out | refine below_set ?_ GE1102.out) | exact HB.out))⟩)
                    · skip
                      rintro ⟨v1097, v1100⟩ w34 ⟨h0_, h1_, h2_, h3_, h4_, h5_⟩
                      have n0_ : Aside0 (Kd.R (Kd.int .i64) 2 w34 w.heap.size (fun k_ => (w.heap.size ≤ k_) ∧ some k_ ≠ (v1100 : Value).ownBlock) v1097 y1096) := ⟨h0_⟩
                      have n1_ : Aside0 (Kd.R (Kd.int .i64) 2 w34 w.heap.size (fun k_ => (w.heap.size ≤ k_) ∧ some k_ ≠ (v1097 : Value).ownBlock) v1100 y1099) := ⟨h1_⟩
                      have n2_ : Aside0 (Kd.V (Kd.int .i64) 2 w34 w.heap.size (fun k_ => ((P1_ k_ ∨ P2_ k_) ∨ w.heap.size ≤ k_) ∧ some k_ ≠ (v1097 : Value).ownBlock ∧ some k_ ≠ (v1100 : Value).ownBlock ∧ k_ ≠ gb1088) (.slice A1 l1.length c1) l1) := ⟨h2_⟩
                      have n3_ : Aside0 (Kd.V (Kd.int .i64) 2 w34 w.heap.size (fun k_ => ((P1_ k_ ∨ P2_ k_) ∨ w.heap.size ≤ k_) ∧ some k_ ≠ (v1097 : Value).ownBlock ∧ some k_ ≠ (v1100 : Value).ownBlock ∧ k_ ≠ gb1088) (.slice A2 l2.length c2) l2) := ⟨h3_⟩
                      have n4_ : Aside0 (w34.heap[gb1088]? = some (.cells #[.int .i64 0, .slice none 0 0, .slice none 0 0] 52 (0, 0))) := ⟨h4_⟩
                      have n5_ : Aside0 (Below w.heap.size w w34) := ⟨h5_⟩
                      clear HO_1
                      clear HO_2
                      clear BK1088
                      clear HB
                      clear h0_ h1_ h2_ h3_ h4_ h5_
                      have HO1098 := n0_
                      have HO1101 := n1_
                      have HO_1 := n2_
                      have HO_2 := n3_
                      have BK1088 := n4_
                      have HB := n5_
                      clear n0_ n1_ n2_ n3_ n4_ n5_
                      have hHeld := trivial
                      obtain ⟨Ao35, co35, eo35⟩ := Kd.R_slice HO1101.out
                      (first | subst eo35 | (injection eo35 with f1_ f2_ f3_; have f4_ := f1_.symm; have f5_ := f3_.symm; clear f1_ f2_ f3_; subst f4_; subst f5_))
                      obtain ⟨Ao36, co36, eo36⟩ := Kd.R_slice HO1098.out
                      (first | subst eo36 | (injection eo36 with f1_ f2_ f3_; have f4_ := f1_.symm; have f5_ := f3_.symm; clear f1_ f2_ f3_; subst f4_; subst f5_))
                      refine norm_ (a' := ?_) ?_ ?_
                      rotate_left
                      · simp only [putAll, Act.put, List.setIfInBounds_toArray, List.set_cons_zero, List.set_cons_succ]
                        rfl
                      refine one_ (i := 6) (N := some 12) #[true, true, true, true, true, true, true, false] rfl rfl (one_of HT_.out (by kernel_rfl)) (by decide) (fun K hK => ?_)
                      refine box_step ?hg (N := 12) ?hd (cs := #[.int .i64 0, .slice none 0 0, .slice none 0 0]) (t := 52) ?hr ?_; (case hd => rfl); (case hg => rfl); (case hr => first | (go_simp; done) | (go_simp; rfl))
                      intro gb1102 hg w37 hbox hb
                      have n0_ := Aside0.mk (Kd.V_below (Kd.V_elderB (by (with_reducible repeat (first | apply Kd.V_alloc | apply Kd.V_drewN | apply Kd.V_drew)); exact HO_1.out) gb1102 (Nat.le_of_eq hg.symm)) hb)
                      have n1_ := Aside0.mk (Kd.V_below (Kd.V_elderB (by (with_reducible repeat (first | apply Kd.V_alloc | apply Kd.V_drewN | apply Kd.V_drew)); exact HO_2.out) gb1102 (Nat.le_of_eq hg.symm)) hb)
                      have n2_ := Aside0.mk (Kd.R_below (rs HO1098) hb)
                      have n3_ := Aside0.mk (Kd.R_below (rs HO1101) hb)
                      have n4_ := Aside0.mk (blk_below (g := gb1088) (o := .cells #[.int .i64 0, .slice none 0 0, .slice none 0 0] 52 (0, 0)) (by (with_reducible repeat (first | refine blk_drewN ?_ _ | refine blk_drew ?_ | refine blk_alloc ?_ _)); exact BK1088.out) hb)
                      have n5_ := Aside0.mk (below_step (by repeat (first | (with_reducible first | exact HB.out | apply below_alloc | apply pw_below_drewN | apply below_drew1 | refine below_set ?_ GE1088.out) | exact HB.out)) hb)
                      have n6_ := Aside0.mk (hbox)
                      have n7_ := Aside0.mk ((by rw [hg]; exact (below_size (by repeat (first | (with_reducible first | exact HB.out | apply below_alloc | apply pw_below_drewN | apply below_drew1 | refine below_set ?_ GE1088.out) | exact HB.out))) : w.heap.size ≤ gb1102))
                      have n8_ := Aside0.mk ((by rw [hg]; exact (below_size (by repeat (first | (with_reducible first | exact HB.out | apply below_alloc | apply pw_below_drewN | apply below_drew1 | refine below_set ?_ GE1088.out) | exact HB.out))) : w.heap.size ≤ gb1102))
                      have n9_ := Aside0.mk ((by rw [hg]; exact Nat.ne_of_lt (blk_lt (g := gb1088) (o := .cells #[.int .i64 0, .slice none 0 0, .slice none 0 0] 52 (0, 0)) (by (with_reducible repeat (first | refine blk_drewN ?_ _ | refine blk_drew ?_ | refine blk_alloc ?_ _)); exact BK1088.out)) : gb1088 ≠ gb1102))
                      have n10_ := Aside0.mk ((by rw [hg]; exact Nat.ne_of_gt (blk_lt (g := gb1088) (o := .cells #[.int .i64 0, .slice none 0 0, .slice none 0 0] 52 (0, 0)) (by (with_reducible repeat (first | refine blk_drewN ?_ _ | refine blk_drew ?_ | refine blk_alloc ?_ _)); exact BK1088.out)) : gb1102 ≠ gb1088))
                      clear HO_1
                      clear HO_2
                      clear HO1098
                      clear HO1101
                      clear BK1088
                      clear HB
                      have HO_1 := n0_
                      have HO_2 := n1_
                      have HO1098 := n2_
                      have HO1101 := n3_
                      have BK1088 := n4_
                      have HB := n5_
                      have BK1102 := n6_
                      have GW1102 := n7_
                      have GE1102 := n8_
                      have NB1088_1102 := n9_
                      have NB1102_1088 := n10_
                      clear n0_ n1_ n2_ n3_ n4_ n5_ n6_ n7_ n8_ n9_ n10_
                      clear hb hbox hg
                      refine hK.out _ _ trivial (fun hHeld => ?_)
                      clear hK K
                      refine norm_ (a' := ?_) ?_ ?_
                      rotate_left
                      · show Act.put _ (some 12) _ = _
                        simp only [Act.put, List.setIfInBounds_toArray, List.set_cons_zero, List.set_cons_succ, i64_w, i32_w]
                        rfl
                      exact norm_ (by first | (simp only [putAll, Act.put, List.setIfInBounds_toArray, List.set_cons_zero, List.set_cons_succ]; done) | (simp only [putAll, Act.put, List.setIfInBounds_toArray, List.set_cons_zero, List.set_cons_succ]; rfl)) (hJ2_4_6 (.slice Ao36 y1096.length co36, .slice Ao35 y1099.length co35, gb1102) _ ⟨(rs HO1098), (rs HO1101), (by (with_reducible repeat (first | apply Kd.V_alloc | apply Kd.V_drewN | apply Kd.V_drew)); exact Kd.V_mono HO_1.out (fun _ hk => ⟨hk.1.1, ⟨hk.1.2.1, ⟨hk.1.2.2.1, ⟨hk.1.2.2.2, hk.2⟩⟩⟩⟩)), (by (with_reducible repeat (first | apply Kd.V_alloc | apply Kd.V_drewN | apply Kd.V_drew)); exact Kd.V_mono HO_2.out (fun _ hk => ⟨hk.1.1, ⟨hk.1.2.1, ⟨hk.1.2.2.1, ⟨hk.1.2.2.2, hk.2⟩⟩⟩⟩)), (by (with_reducible repeat (first | refine blk_drewN ?_ _ | refine blk_drew ?_ | refine blk_alloc ?_ _)); exact BK1088.out), (by (with_reducible repeat (first | refine blk_drewN ?_ _ | refine blk_drew ?_ | refine blk_alloc ?_ _)); exact BK1102.out), GW1102.out, GE1102.out, NB1088_1102.out, NB1102_1088.out, (by repeat (first | (with_reducible first | exact HB.out | apply below_alloc | apply pw_below_drewN | apply below_drew1 | refine below_set ?_ GE1088.out | refine below_set ?_ GE1102.out) | exact HB.out))⟩)
                  rintro ⟨v1097, v1100, gb1102⟩ w35 ⟨h0_, h1_, h2_, h3_, h4_, h5_, h6_, h7_, h8_, h9_, h10_⟩
                  have n0_ : Aside0 (Kd.R (Kd.int .i64) 2 w35 w.heap.size (fun k_ => (w.heap.size ≤ k_) ∧ some k_ ≠ (v1100 : Value).ownBlock) v1097 y1096) := ⟨h0_⟩
                  have n1_ : Aside0 (Kd.R (Kd.int .i64) 2 w35 w.heap.size (fun k_ => (w.heap.size ≤ k_) ∧ some k_ ≠ (v1097 : Value).ownBlock) v1100 y1099) := ⟨h1_⟩
                  have n2_ : Aside0 (Kd.V (Kd.int .i64) 2 w35 w.heap.size (fun k_ => ((P1_ k_ ∨ P2_ k_) ∨ w.heap.size ≤ k_) ∧ some k_ ≠ (v1097 : Value).ownBlock ∧ some k_ ≠ (v1100 : Value).ownBlock ∧ k_ ≠ gb1088 ∧ k_ ≠ gb1102) (.slice A1 l1.length c1) l1) := ⟨h2_⟩
                  have n3_ : Aside0 (Kd.V (Kd.int .i64) 2 w35 w.heap.size (fun k_ => ((P1_ k_ ∨ P2_ k_) ∨ w.heap.size ≤ k_) ∧ some k_ ≠ (v1097 : Value).ownBlock ∧ some k_ ≠ (v1100 : Value).ownBlock ∧ k_ ≠ gb1088 ∧ k_ ≠ gb1102) (.slice A2 l2.length c2) l2) := ⟨h3_⟩
                  have n4_ : Aside0 (w35.heap[gb1088]? = some (.cells #[.int .i64 0, .slice none 0 0, .slice none 0 0] 52 (0, 0))) := ⟨h4_⟩
                  have n5_ : Aside0 (w35.heap[gb1102]? = some (.cells #[.int .i64 0, .slice none 0 0, .slice none 0 0] 52 (0, 0))) := ⟨h5_⟩
                  have n6_ : Aside0 (w.heap.size ≤ gb1102) := ⟨h6_⟩
                  have n7_ : Aside0 (w.heap.size ≤ gb1102) := ⟨h7_⟩
                  have n8_ : Aside0 (gb1088 ≠ gb1102) := ⟨h8_⟩
                  have n9_ : Aside0 (gb1102 ≠ gb1088) := ⟨h9_⟩
                  have n10_ : Aside0 (Below w.heap.size w w35) := ⟨h10_⟩
                  clear HO_1
                  clear HO_2
                  clear BK1088
                  clear HB
                  clear h0_ h1_ h2_ h3_ h4_ h5_ h6_ h7_ h8_ h9_ h10_
                  have HO1098 := n0_
                  have HO1101 := n1_
                  have HO_1 := n2_
                  have HO_2 := n3_
                  have BK1088 := n4_
                  have BK1102 := n5_
                  have GW1102 := n6_
                  have GE1102 := n7_
                  have NB1088_1102 := n8_
                  have NB1102_1088 := n9_
                  have HB := n10_
                  clear n0_ n1_ n2_ n3_ n4_ n5_ n6_ n7_ n8_ n9_ n10_
                  have hHeld := trivial
                  obtain ⟨Ao36, co36, eo36⟩ := Kd.R_slice HO1101.out
                  (first | subst eo36 | (injection eo36 with f1_ f2_ f3_; have f4_ := f1_.symm; have f5_ := f3_.symm; clear f1_ f2_ f3_; subst f4_; subst f5_))
                  obtain ⟨Ao37, co37, eo37⟩ := Kd.R_slice HO1098.out
                  (first | subst eo37 | (injection eo37 with f1_ f2_ f3_; have f4_ := f1_.symm; have f5_ := f3_.symm; clear f1_ f2_ f3_; subst f4_; subst f5_))
                  refine norm_ (a' := ?_) ?_ ?_
                  rotate_left
                  · simp only [putAll, Act.put, List.setIfInBounds_toArray, List.set_cons_zero, List.set_cons_succ]
                    rfl
                  refine one_ (i := 7) (N := none) #[true, true, true, true, true, true, true, true] rfl rfl (one_of HT_.out (by kernel_rfl)) (by decide) (fun K hK => ?_)
                  have hs38 : w35.cell? ⟨gb1102, 0, none⟩ = some (.int .i64 0) := (blk_cell BK1102.out 0).trans rfl
                  have hfs38 := blk_frozen BK1102.out 0
                  have hns38_0 := NB1088_1102.out
                  have hms38_0 := NB1102_1088.out
                  have hs39 : w35.cell? ⟨gb1102, 1, none⟩ = some (.slice none 0 0) := (blk_cell BK1102.out 1).trans rfl
                  have hfs39 := blk_frozen BK1102.out 1
                  have hns39_0 := NB1088_1102.out
                  have hms39_0 := NB1102_1088.out
                  have hs40 : w35.cell? ⟨gb1102, 2, none⟩ = some (.slice none 0 0) := (blk_cell BK1102.out 2).trans rfl
                  have hfs40 := blk_frozen BK1102.out 2
                  have hns40_0 := NB1088_1102.out
                  have hms40_0 := NB1102_1088.out
                  refine skip_ (w1 := ?_) (by rfl) rfl ?_ ?_
                  rotate_left
                  · go_simp
                    rfl
                  refine hK.out _ _ trivial (fun hHeld => ?_)
                  clear hK K
                  refine done_ (done_of HT_.out (by kernel_rfl)) ?_
                  have n0_ : Aside0 (Kd.V (Kd.int .i64) 2 (((w35.setCell ⟨gb1102, 0, none⟩ (.int .i64 a0)).setCell ⟨gb1102, 1, none⟩ (.slice Ao37 y1096.length co37)).setCell ⟨gb1102, 2, none⟩ (.slice Ao36 y1099.length co36)) w.heap.size (fun k_ => ((P1_ k_ ∨ P2_ k_) ∨ w.heap.size ≤ k_) ∧ some k_ ≠ (.slice Ao37 y1096.length co37 : Value).ownBlock ∧ some k_ ≠ (.slice Ao36 y1099.length co36 : Value).ownBlock ∧ k_ ≠ gb1088 ∧ k_ ≠ gb1102) (.slice A1 l1.length c1) l1) := ⟨by (with_reducible repeat (first | apply Kd.V_alloc | apply Kd.V_drewN | apply Kd.V_drew)); exact Kd.V_mono (Kd.V_far (p := ⟨gb1102, 2, none⟩) (Kd.V_far (p := ⟨gb1102, 1, none⟩) (Kd.V_far (p := ⟨gb1102, 0, none⟩) (Kd.V_mono HO_1.out (fun k_ hk => (⟨hk, hk.2.2.2.2⟩ : _ ∧ k_ ≠ gb1102))) (fun _ hk => hk.2) (.int .i64 a0)) (fun _ hk => hk.2) (.slice Ao37 y1096.length co37)) (fun _ hk => hk.2) (.slice Ao36 y1099.length co36)) (fun _ hk => ⟨hk.1.1, ⟨hk.1.2.1, ⟨hk.1.2.2.1, ⟨hk.1.2.2.2.1, hk.1.2.2.2.2⟩⟩⟩⟩)⟩
                  have n1_ : Aside0 (Kd.V (Kd.int .i64) 2 (((w35.setCell ⟨gb1102, 0, none⟩ (.int .i64 a0)).setCell ⟨gb1102, 1, none⟩ (.slice Ao37 y1096.length co37)).setCell ⟨gb1102, 2, none⟩ (.slice Ao36 y1099.length co36)) w.heap.size (fun k_ => ((P1_ k_ ∨ P2_ k_) ∨ w.heap.size ≤ k_) ∧ some k_ ≠ (.slice Ao37 y1096.length co37 : Value).ownBlock ∧ some k_ ≠ (.slice Ao36 y1099.length co36 : Value).ownBlock ∧ k_ ≠ gb1088 ∧ k_ ≠ gb1102) (.slice A2 l2.length c2) l2) := ⟨by (with_reducible repeat (first | apply Kd.V_alloc | apply Kd.V_drewN | apply Kd.V_drew)); exact Kd.V_mono (Kd.V_far (p := ⟨gb1102, 2, none⟩) (Kd.V_far (p := ⟨gb1102, 1, none⟩) (Kd.V_far (p := ⟨gb1102, 0, none⟩) (Kd.V_mono HO_2.out (fun k_ hk => (⟨hk, hk.2.2.2.2⟩ : _ ∧ k_ ≠ gb1102))) (fun _ hk => hk.2) (.int .i64 a0)) (fun _ hk => hk.2) (.slice Ao37 y1096.length co37)) (fun _ hk => hk.2) (.slice Ao36 y1099.length co36)) (fun _ hk => ⟨hk.1.1, ⟨hk.1.2.1, ⟨hk.1.2.2.1, ⟨hk.1.2.2.2.1, hk.1.2.2.2.2⟩⟩⟩⟩)⟩
                  have n2_ : Aside0 (Kd.R (Kd.int .i64) 2 (((w35.setCell ⟨gb1102, 0, none⟩ (.int .i64 a0)).setCell ⟨gb1102, 1, none⟩ (.slice Ao37 y1096.length co37)).setCell ⟨gb1102, 2, none⟩ (.slice Ao36 y1099.length co36)) w.heap.size (fun k_ => (w.heap.size ≤ k_) ∧ some k_ ≠ (.slice Ao36 y1099.length co36 : Value).ownBlock) (.slice Ao37 y1096.length co37) y1096) := ⟨by (with_reducible repeat (first | apply Kd.R_alloc | apply Kd.R_drewN | apply Kd.R_drew)); exact Kd.R_mono (Kd.R_far (p := ⟨gb1102, 2, none⟩) (Kd.R_far (p := ⟨gb1102, 1, none⟩) (Kd.R_far (p := ⟨gb1102, 0, none⟩) (Kd.R_types HO1098.out BK1102.out (by decide)) (fun _ hk => hk.2) (.int .i64 a0)) (fun _ hk => hk.2) (.slice Ao37 y1096.length co37)) (fun _ hk => hk.2) (.slice Ao36 y1099.length co36)) (fun _ hk => ⟨hk.1.1, hk.1.2⟩)⟩
                  have n3_ : Aside0 (Kd.R (Kd.int .i64) 2 (((w35.setCell ⟨gb1102, 0, none⟩ (.int .i64 a0)).setCell ⟨gb1102, 1, none⟩ (.slice Ao37 y1096.length co37)).setCell ⟨gb1102, 2, none⟩ (.slice Ao36 y1099.length co36)) w.heap.size (fun k_ => (w.heap.size ≤ k_) ∧ some k_ ≠ (.slice Ao37 y1096.length co37 : Value).ownBlock) (.slice Ao36 y1099.length co36) y1099) := ⟨by (with_reducible repeat (first | apply Kd.R_alloc | apply Kd.R_drewN | apply Kd.R_drew)); exact Kd.R_mono (Kd.R_far (p := ⟨gb1102, 2, none⟩) (Kd.R_far (p := ⟨gb1102, 1, none⟩) (Kd.R_far (p := ⟨gb1102, 0, none⟩) (Kd.R_types HO1101.out BK1102.out (by decide)) (fun _ hk => hk.2) (.int .i64 a0)) (fun _ hk => hk.2) (.slice Ao37 y1096.length co37)) (fun _ hk => hk.2) (.slice Ao36 y1099.length co36)) (fun _ hk => ⟨hk.1.1, hk.1.2⟩)⟩
                  have n4_ : Aside0 ((((w35.setCell ⟨gb1102, 0, none⟩ (.int .i64 a0)).setCell ⟨gb1102, 1, none⟩ (.slice Ao37 y1096.length co37)).setCell ⟨gb1102, 2, none⟩ (.slice Ao36 y1099.length co36)).heap[gb1088]? = some (.cells #[.int .i64 0, .slice none 0 0, .slice none 0 0] 52 (0, 0))) := ⟨by (with_reducible repeat (first | refine blk_drewN ?_ _ | refine blk_drew ?_ | refine blk_alloc ?_ _)); refine blk_far ?_ NB1088_1102.out _; (with_reducible repeat (first | refine blk_drewN ?_ _ | refine blk_drew ?_ | refine blk_alloc ?_ _)); refine blk_far ?_ NB1088_1102.out _; (with_reducible repeat (first | refine blk_drewN ?_ _ | refine blk_drew ?_ | refine blk_alloc ?_ _)); refine blk_far ?_ NB1088_1102.out _; (with_reducible repeat (first | refine blk_drewN ?_ _ | refine blk_drew ?_ | refine blk_alloc ?_ _)); exact BK1088.out⟩
                  have n5_ : Aside0 ((((w35.setCell ⟨gb1102, 0, none⟩ (.int .i64 a0)).setCell ⟨gb1102, 1, none⟩ (.slice Ao37 y1096.length co37)).setCell ⟨gb1102, 2, none⟩ (.slice Ao36 y1099.length co36)).heap[gb1102]? = some (.cells #[.int .i64 a0, .slice Ao37 y1096.length co37, .slice Ao36 y1099.length co36] 52 (0, 0))) := ⟨by (with_reducible repeat (first | refine blk_drewN ?_ _ | refine blk_drew ?_ | refine blk_alloc ?_ _)); refine blk_put (cs := #[.int .i64 a0, .slice Ao37 y1096.length co37, .slice none 0 0]) ?_ 2 _ rfl; (with_reducible repeat (first | refine blk_drewN ?_ _ | refine blk_drew ?_ | refine blk_alloc ?_ _)); refine blk_put (cs := #[.int .i64 a0, .slice none 0 0, .slice none 0 0]) ?_ 1 _ rfl; (with_reducible repeat (first | refine blk_drewN ?_ _ | refine blk_drew ?_ | refine blk_alloc ?_ _)); refine blk_put (cs := #[.int .i64 0, .slice none 0 0, .slice none 0 0]) ?_ 0 _ rfl; (with_reducible repeat (first | refine blk_drewN ?_ _ | refine blk_drew ?_ | refine blk_alloc ?_ _)); exact BK1102.out⟩
                  have n6_ : Aside0 (Below w.heap.size w (((w35.setCell ⟨gb1102, 0, none⟩ (.int .i64 a0)).setCell ⟨gb1102, 1, none⟩ (.slice Ao37 y1096.length co37)).setCell ⟨gb1102, 2, none⟩ (.slice Ao36 y1099.length co36))) := ⟨by repeat (first | (with_reducible first | exact HB.out | apply below_alloc | apply pw_below_drewN | apply below_drew1 | refine below_set ?_ GE1088.out | refine below_set ?_ GE1102.out) | exact HB.out)⟩
                  (try clear HO_1)
                  (try clear HO_2)
                  (try clear HO1098)
                  (try clear HO1101)
                  (try clear BK1088)
                  (try clear BK1102)
                  (try clear HB)
                  generalize (((w35.setCell ⟨gb1102, 0, none⟩ (.int .i64 a0)).setCell ⟨gb1102, 1, none⟩ (.slice Ao37 y1096.length co37)).setCell ⟨gb1102, 2, none⟩ (.slice Ao36 y1099.length co36)) = w41 at n0_ n1_ n2_ n3_ n4_ n5_ n6_ ⊢
                  have HO_1 := n0_
                  have HO_2 := n1_
                  have HO1098 := n2_
                  have HO1101 := n3_
                  have BK1088 := n4_
                  have BK1102 := n5_
                  have HB := n6_
                  clear n0_ n1_ n2_ n3_ n4_ n5_ n6_
                  have hnb42 := NB1102_1088.out
                  have hnc42 := NB1088_1102.out
                  have hcz43_0 : w41.cell? ⟨gb1102, 0, none⟩ = some (.int .i64 a0) := (blk_cell BK1102.out 0).trans rfl
                  have hcz43_1 : w41.cell? ⟨gb1102, 1, none⟩ = some (.slice Ao37 y1096.length co37) := (blk_cell BK1102.out 1).trans rfl
                  have hcz43_2 : w41.cell? ⟨gb1102, 2, none⟩ = some (.slice Ao36 y1099.length co36) := (blk_cell BK1102.out 2).trans rfl
                  have hfz43_0 := blk_frozen BK1102.out 0
                  have hfz43_1 := blk_frozen BK1102.out 1
                  have hfz43_2 := blk_frozen BK1102.out 2
                  have p26 : 0 ≤ (0 : Int) := (by omega)
                  have q26 : (0 : Int) < ((y1099.length : Int) : Int) := of_decide_eq_true (by first | (with_reducible assumption) | assumption)
                  have qi26 : (0 < y1099.length) = True := eq_true (by omega)
                  obtain ⟨go26, co26, eo26, gb26, gl26, cl26, HG26⟩ := Kd.R_form HO1101.out (by omega)
                  (first | cases eo26 | (injection eo26 with ea_ en_ ec_; (first | subst ea_ | (injection ea_ with ea_; subst ea_)); subst ec_; clear en_))
                  have GB26 := Aside0.mk gb26
                  have GG26 := Aside0.mk HG26
                  clear gb26 gl26 HG26
                  obtain ⟨hx26_0, hf26_0⟩ := Kd.R_celln 0 HO1101.out (0 : Int) p26 q26
                  (try rw [show ((0 : Int)).toNat = 0 from rfl] at hx26_0)
                  (try simp only [Nat.reduceMul, Nat.zero_mul, Nat.zero_add, Nat.reduceAdd] at hx26_0)
                  (try rw [show ((0 : Int)).toNat = 0 from rfl] at hf26_0)
                  (try simp only [Nat.reduceMul, Nat.zero_mul, Nat.zero_add, Nat.reduceAdd] at hf26_0)
                  replace p26 := eq_true p26
                  replace q26 := eq_true q26
                  obtain ⟨hy44_, hz44_⟩ := Kd.R_celln 0 HO1101.out (0 : Int) (by omega) (of_decide_eq_true (by first | (with_reducible assumption) | assumption))
                  (try simp only [Int.reduceToNat, Int.toNat_zero, Int.toNat_ofNat, Nat.reduceMul, Nat.zero_mul, Nat.zero_add] at hy44_ hz44_)
                  (try rw [show ((0 : Int)).toNat = 0 from rfl] at hy44_)
                  (try rw [show ((0 : Int)).toNat = 0 from rfl] at hz44_)
                  have HP44 := Kd.R_putg HO1101.out (0 : Int) a3
                  try go_wp2_with (first | ((with_reducible refine gate_store (t := 2) (p := 67) rfl ?_); refine store_event (t := 2) (p := 67) (v := ?vo_w45) (w1 := (w41.setCell ⟨go26, (0 : Int).toNat, none⟩ (.int .i64 a3))) ?hg ?ho ?hn ?hr ?_; (case ho => rfl); (case hg => rfl); (case hn => rfl); (case hr => first | (go_simp; done) | (go_simp; rfl)); intro w45 hw; have hg : w41.grownBy w45 (some go26) := (by rw [hw]; exact HP44.2); have hp_ : Kd.R (Kd.int .i64) 2 w45 w.heap.size (fun k_ => (w.heap.size ≤ k_) ∧ some k_ ≠ (.slice Ao37 y1096.length co37 : Value).ownBlock) (.slice (some ⟨go26, 0, none⟩) y1099.length co36) y1103 := (by rw [hw, Ny1103.out]; exact HP44.1); clear HP44; have n0_ := Aside0.mk (Kd.V_afterv (v := (.slice (some ⟨go26, 0, none⟩) y1099.length co36)) (v1 := (.slice (some ⟨go26, 0, none⟩) y1099.length co36)) (ok := (fun k_ => ((P1_ k_ ∨ P2_ k_) ∨ w.heap.size ≤ k_) ∧ some k_ ≠ (.slice Ao37 y1096.length co37 : Value).ownBlock ∧ k_ ≠ gb1088 ∧ k_ ≠ gb1102)) (by (with_reducible repeat (first | apply Kd.V_alloc | apply Kd.V_drewN | apply Kd.V_drew)); exact Kd.V_mono HO_1.out (fun _ hk => ⟨⟨hk.1, ⟨hk.2.1, ⟨hk.2.2.2.1, hk.2.2.2.2⟩⟩⟩, hk.2.2.1⟩)) hg (.inl rfl)); have n1_ := Aside0.mk (Kd.V_afterv (v := (.slice (some ⟨go26, 0, none⟩) y1099.length co36)) (v1 := (.slice (some ⟨go26, 0, none⟩) y1099.length co36)) (ok := (fun k_ => ((P1_ k_ ∨ P2_ k_) ∨ w.heap.size ≤ k_) ∧ some k_ ≠ (.slice Ao37 y1096.length co37 : Value).ownBlock ∧ k_ ≠ gb1088 ∧ k_ ≠ gb1102)) (by (with_reducible repeat (first | apply Kd.V_alloc | apply Kd.V_drewN | apply Kd.V_drew)); exact Kd.V_mono HO_2.out (fun _ hk => ⟨⟨hk.1, ⟨hk.2.1, ⟨hk.2.2.2.1, hk.2.2.2.2⟩⟩⟩, hk.2.2.1⟩)) hg (.inl rfl)); have n2_ := Aside0.mk (blk_grown (g := gb1088) (o := .cells #[.int .i64 0, .slice none 0 0, .slice none 0 0] 52 (0, 0)) (by (with_reducible repeat (first | refine blk_drewN ?_ _ | refine blk_drew ?_ | refine blk_alloc ?_ _)); exact BK1088.out) hg (Kd.R_ne HO1101.out BK1088.out (by decide))); have n3_ := Aside0.mk (Kd.R_after (v := (.slice (some ⟨go26, 0, none⟩) y1099.length co36)) (v1 := (.slice (some ⟨go26, 0, none⟩) y1099.length co36)) (ok := (fun k_ => (w.heap.size ≤ k_))) (rs HO1098) hg (.inl rfl)); have n4_ := Aside0.mk (hp_); have n5_ := Aside0.mk (blk_grown (g := gb1102) (o := .cells #[.int .i64 a0, .slice Ao37 y1096.length co37, .slice (some ⟨go26, 0, none⟩) y1099.length co36] 52 (0, 0)) (by (with_reducible repeat (first | refine blk_drewN ?_ _ | refine blk_drew ?_ | refine blk_alloc ?_ _)); exact BK1102.out) hg (Kd.R_ne HO1101.out BK1102.out (by decide))); have n6_ := Aside0.mk ((by rw [hw]; exact below_set (HB.out) GB26.out : Below w.heap.size w w45)); clear HO_1; clear HO_2; clear BK1088; clear HO1098; clear HO1101; clear BK1102; clear HB; have HO_1 := n0_; have HO_2 := n1_; have BK1088 := n2_; have HO1098 := n3_; have HO1101 := n4_; have BK1102 := n5_; have HB := n6_; clear n0_ n1_ n2_ n3_ n4_ n5_ n6_; clear hg hw hp_))
                  go_loopg [1, 2, 13] kj18 (fun kq v1 v2 v13 w' => ∃ (x1_3 : List Int) (x2_3 : List Int) (x13_3 : Int) (x1089000_3 : Int) (x1103001_3 : List Int) (x1103002_3 : List Int) (u1103001 : Value) (u1103002 : Value), v13 = .int .i64 x13_3 ∧ Aside0 (spec_FindJacobi.l0 kq a0 x1_3 x2_3 x13_3 a0 x1103001_3 x1103002_3 = some (r1, r2, r3, r4)) ∧ Aside0 (kq ≤ kj18) ∧ Aside0 (Kd.V (Kd.int .i64) 2 w' w.heap.size (fun k_ => ((P1_ k_ ∨ P2_ k_) ∨ w.heap.size ≤ k_) ∧ some k_ ≠ (u1103001 : Value).ownBlock ∧ some k_ ≠ (u1103002 : Value).ownBlock ∧ k_ ≠ gb1088 ∧ k_ ≠ gb1102) v1 x1_3) ∧ Aside0 (Kd.V (Kd.int .i64) 2 w' w.heap.size (fun k_ => ((P1_ k_ ∨ P2_ k_) ∨ w.heap.size ≤ k_) ∧ some k_ ≠ (u1103001 : Value).ownBlock ∧ some k_ ≠ (u1103002 : Value).ownBlock ∧ k_ ≠ gb1088 ∧ k_ ≠ gb1102) v2 x2_3) ∧ Aside0 (Kd.R (Kd.int .i64) 2 w' w.heap.size (fun k_ => (w.heap.size ≤ k_) ∧ some k_ ≠ (u1103002 : Value).ownBlock) u1103001 x1103001_3) ∧ Aside0 (Kd.R (Kd.int .i64) 2 w' w.heap.size (fun k_ => (w.heap.size ≤ k_) ∧ some k_ ≠ (u1103001 : Value).ownBlock) u1103002 x1103002_3) ∧ Aside0 (w'.heap[gb1088]? = some (.cells #[.int .i64 x1089000_3, (.slice none 0 0), (.slice none 0 0)] 52 (0, 0))) ∧ Aside0 (w'.heap[gb1102]? = some (.cells #[.int .i64 a0, u1103001, u1103002] 52 (0, 0))) ∧ Aside0 (Below w.heap.size w w'))
                  case atStart => exact ⟨(l1), (l2), (wrap64 ((ji22) - 1)), (0), (y1096), (y1103), (.slice Ao37 y1096.length co37), (.slice (some ⟨go26, 0, none⟩) y1099.length co36), (by first | rfl | (simp; done) | (simp only [← hji22] <;> (first | rfl | simp)) | (simp [*]; done)), H', ⟨Nat.le_refl _⟩, ⟨by (with_reducible repeat (first | apply Kd.V_alloc | apply Kd.V_drewN | apply Kd.V_drew)); exact Kd.V_mono HO_1.out (fun _ hk => ⟨hk.1.1, ⟨hk.1.2.1, ⟨hk.2, ⟨hk.1.2.2.1, hk.1.2.2.2⟩⟩⟩⟩)⟩, ⟨by (with_reducible repeat (first | apply Kd.V_alloc | apply Kd.V_drewN | apply Kd.V_drew)); exact Kd.V_mono HO_2.out (fun _ hk => ⟨hk.1.1, ⟨hk.1.2.1, ⟨hk.2, ⟨hk.1.2.2.1, hk.1.2.2.2⟩⟩⟩⟩)⟩, ⟨by (with_reducible repeat (first | apply Kd.R_alloc | apply Kd.R_drewN | apply Kd.R_drew)); exact HO1098.out⟩, ⟨by (with_reducible repeat (first | apply Kd.R_alloc | apply Kd.R_drewN | apply Kd.R_drew)); exact HO1101.out⟩, ⟨by (with_reducible repeat (first | refine blk_drewN ?_ _ | refine blk_drew ?_ | refine blk_alloc ?_ _)); exact BK1088.out⟩, ⟨by (with_reducible repeat (first | refine blk_drewN ?_ _ | refine blk_drew ?_ | refine blk_alloc ?_ _)); exact BK1102.out⟩, ⟨by repeat (first | (with_reducible first | exact HB.out | apply below_alloc | apply pw_below_drewN | apply below_drew1 | refine below_set ?_ GE1088.out | refine below_set ?_ GE1102.out) | exact HB.out)⟩⟩
                  case round =>
                    clear H'
                    try clear c1
                    try clear c2
                    try clear p2
                    try clear q2
                    try clear hx2
                    try clear qi2
                    try clear c4
                    try clear p6
                    try clear p26
                    try clear q26
                    try clear hx26
                    try clear qi26
                    try clear hf26
                    try clear c42
                    try clear hcz43_0
                    try clear hcz43_1
                    try clear hcz43_2
                    try clear hfz43_0
                    try clear hfz43_1
                    try clear hfz43_2
                    try clear hx26_0
                    try clear p26
                    try clear q26
                    obtain ⟨x1_3, x2_3, x13_3, x1089000_3, x1103001_3, x1103002_3, u1103001, u1103002, rfl, HA, HK3, HO_1, HO_2, HO_1103001, HO_1103002, BK1088, BK1102, HB⟩ := hrel
                    cases gk with
                    | zero => exact absurd HA.out (by simp [spec_FindJacobi.l0])
                    | succ k3 =>
                      have H := HA.out
                      clear HA
                      simp only [spec_FindJacobi.l0] at H
                      by_cases c46 : x13_3 ≥ 0
                      · rw [if_pos c46] at H
                        have c46b0 : decide (0 ≤ x13_3) = true := decide_eq_true c46
                        clear c46
                        replace H := Option.bind_eq_some_iff.mp H
                        obtain ⟨⟨t1104, t1105⟩, A470, H⟩ := H
                        have A47 := Aside0.mk A470
                        clear A470
                        have HC48 := Aside0.mk H
                        clear H
                        obtain ⟨Ao49, co49, eo49⟩ := Kd.V_slice HO_1.out
                        subst eo49
                        obtain ⟨Ao50, co50, eo50⟩ := Kd.V_slice HO_2.out
                        subst eo50
                        go_upto_if 83 with (first | ((with_reducible refine gate_callee (f := 66) rfl ?_); refine goesM_ (some 78) rfl rfl Try.func66 #[.int .i64 a0, .slice Ao49 x1_3.length co49, .slice Ao50 x2_3.length co50] rfl ?_; (with_reducible refine (spec_l01Divide.calls k3 a0 _ _ x1_3 _ _ x2_3 t1104 t1105 _ ?side1 ?side2 ?side3 ?side4 A47.out).mono ?_); (case side1 => exact cs ((Kd.V_reads' HO_1.out).2.2)); (case side2 => exact (Kd.V_reads' HO_1.out).2.1); (case side3 => exact cs ((Kd.V_reads' HO_2.out).2.2)); (case side4 => exact (Kd.V_reads' HO_2.out).2.1); rintro e w51 ⟨v1106, v1108, rfl, ho0, ho1, hb⟩; refine ⟨_, rfl, ?_⟩; have n0_ := Aside0.mk (Kd.V_mono (Kd.V_told (Kd.V_told (Kd.V_old (by (with_reducible repeat (first | apply Kd.V_alloc | apply Kd.V_drewN | apply Kd.V_drew)); exact HO_1.out) hb) (Kd.R_base ho0)) (Kd.R_base ho1)) (fun _ h_ => h_.1)); have n1_ := Aside0.mk (Kd.V_mono (Kd.V_told (Kd.V_told (Kd.V_old (by (with_reducible repeat (first | apply Kd.V_alloc | apply Kd.V_drewN | apply Kd.V_drew)); exact HO_2.out) hb) (Kd.R_base ho0)) (Kd.R_base ho1)) (fun _ h_ => h_.1)); have n2_ := Aside0.mk (Kd.R_mono (Kd.R_told (Kd.R_told (Kd.R_old (rs HO_1103001) hb) (Kd.R_base ho0)) (Kd.R_base ho1)) (fun _ h_ => h_.1)); have n3_ := Aside0.mk (Kd.R_mono (Kd.R_told (Kd.R_told (Kd.R_old (rs HO_1103002) hb) (Kd.R_base ho0)) (Kd.R_base ho1)) (fun _ h_ => h_.1)); have n4_ := Aside0.mk (Kd.R_lower (Kd.R_new' (Kd.R_new' (Kd.R_newM (M := fun k_ => (w.heap.size ≤ k_)) ho0 (below_size (by repeat (first | (with_reducible first | exact HB.out | apply below_alloc | apply pw_below_drewN | apply below_drew1 | refine below_set ?_ GE1088.out | refine below_set ?_ GE1102.out) | exact HB.out))) (fun k_ h_ => h_)) (Kd.R_lt (rs HO_1103001))) (Kd.R_lt (rs HO_1103002))) (below_size (by repeat (first | (with_reducible first | exact HB.out | apply below_alloc | apply pw_below_drewN | apply below_drew1 | refine below_set ?_ GE1088.out | refine below_set ?_ GE1102.out) | exact HB.out)))); have n5_ := Aside0.mk (Kd.R_lower (Kd.R_new' (Kd.R_new' (Kd.R_newM (M := fun k_ => (w.heap.size ≤ k_)) ho1 (below_size (by repeat (first | (with_reducible first | exact HB.out | apply below_alloc | apply pw_below_drewN | apply below_drew1 | refine below_set ?_ GE1088.out | refine below_set ?_ GE1102.out) | exact HB.out))) (fun k_ h_ => h_)) (Kd.R_lt (rs HO_1103001))) (Kd.R_lt (rs HO_1103002))) (below_size (by repeat (first | (with_reducible first | exact HB.out | apply below_alloc | apply pw_below_drewN | apply below_drew1 | refine below_set ?_ GE1088.out | refine below_set ?_ GE1102.out) | exact HB.out)))); have n6_ := Aside0.mk (blk_below (g := gb1088) (o := .cells #[.int .i64 x1089000_3, .slice none 0 0, .slice none 0 0] 52 (0, 0)) (by (with_reducible repeat (first | refine blk_drewN ?_ _ | refine blk_drew ?_ | refine blk_alloc ?_ _)); exact BK1088.out) hb); have n7_ := Aside0.mk (blk_below (g := gb1102) (o := .cells #[.int .i64 a0, u1103001, u1103002] 52 (0, 0)) (by (with_reducible repeat (first | refine blk_drewN ?_ _ | refine blk_drew ?_ | refine blk_alloc ?_ _)); exact BK1102.out) hb); have n8_ := Aside0.mk (below_step (by repeat (first | (with_reducible first | exact HB.out | apply below_alloc | apply pw_below_drewN | apply below_drew1 | refine below_set ?_ GE1088.out | refine below_set ?_ GE1102.out) | exact HB.out)) hb); clear HO_1; clear HO_2; clear HO_1103001; clear HO_1103002; clear BK1088; clear BK1102; clear HB; have HO_1 := n0_; have HO_2 := n1_; have HO_1103001 := n2_; have HO_1103002 := n3_; have HO1107 := n4_; have HO1109 := n5_; have BK1088 := n6_; have BK1102 := n7_; have HB := n8_; clear n0_ n1_ n2_ n3_ n4_ n5_ n6_ n7_ n8_; (try clear hb); (try clear hb2); (try clear hk); (try clear hi); (try clear ho0); (try clear ho1); obtain ⟨Ao52, co52, eo52⟩ := Kd.R_slice HO1107.out; subst eo52))
                        (try simp only [Act.put, List.setIfInBounds_toArray, List.set_cons_zero, List.set_cons_succ])
                        go_cut [] (fun wc => ∃ (kq : Nat) (x2_47 : List Int) (x15_47 : List Int) (x1103001_47 : List Int) (x1103002_47 : List Int) (u1103001 : Value) (u1103002 : Value), Aside0 (spec_FindJacobi.j3 kq a0 x2_47 x13_3 x15_47 a0 x1103001_47 x1103002_47 = some (r1, r2, r3, r4)) ∧ Aside0 (kq ≤ k3) ∧ Aside0 (Kd.V (Kd.int .i64) 2 wc w.heap.size (fun k_ => ((P1_ k_ ∨ P2_ k_) ∨ w.heap.size ≤ k_) ∧ some k_ ≠ (v1108 : Value).ownBlock ∧ some k_ ≠ (u1103001 : Value).ownBlock ∧ some k_ ≠ (u1103002 : Value).ownBlock ∧ k_ ≠ gb1088 ∧ k_ ≠ gb1102) (.slice Ao50 x2_3.length co50) x2_47) ∧ Aside0 (Kd.R (Kd.int .i64) 2 wc w.heap.size (fun k_ => (w.heap.size ≤ k_) ∧ some k_ ≠ (u1103001 : Value).ownBlock ∧ some k_ ≠ (u1103002 : Value).ownBlock) v1108 x15_47) ∧ Aside0 (Kd.R (Kd.int .i64) 2 wc w.heap.size (fun k_ => (w.heap.size ≤ k_) ∧ some k_ ≠ (v1108 : Value).ownBlock ∧ some k_ ≠ (u1103002 : Value).ownBlock) u1103001 x1103001_47) ∧ Aside0 (Kd.R (Kd.int .i64) 2 wc w.heap.size (fun k_ => (w.heap.size ≤ k_) ∧ some k_ ≠ (v1108 : Value).ownBlock ∧ some k_ ≠ (u1103001 : Value).ownBlock) u1103002 x1103002_47) ∧ Aside0 (wc.heap[gb1088]? = some (.cells #[.int .i64 x1089000_3, (.slice none 0 0), (.slice none 0 0)] 52 (0, 0))) ∧ Aside0 (wc.heap[gb1102]? = some (.cells #[.int .i64 a0, u1103001, u1103002] 52 (0, 0))) ∧ Aside0 (Below w.heap.size w wc))
                        case first =>
                          have H := HC48.out
                          clear HC48
                          by_cases c53 : (t1104.length : Int) > 0
                          · rw [if_pos c53] at H
                            have c53b0 : decide (0 < (t1104.length : Int)) = true := decide_eq_true c53
                            have c53b1 : decide (0 < t1104.length) = true := decide_eq_true (by omega)
                            clear c53
                            (first | rw [c53b0] | rw [c53b1] | (simp only [i64_w, i32_w]; rw [c53b0]) | skip)
                            by_cases c54 : 0 < (t1104.length : Int)
                            · rw [if_pos c54] at H
                              have c54b0 : decide (0 < (t1104.length : Int)) = true := decide_eq_true c54
                              have c54b1 : decide (0 < t1104.length) = true := decide_eq_true (by omega)
                              clear c54
                              replace H := Option.bind_eq_some_iff.mp H
                              obtain ⟨t1111, A550, H⟩ := H
                              have A55 := Aside0.mk A550
                              clear A550
                              by_cases c56 : 0 ≤ x13_3
                              · rw [if_pos c56] at H
                                have c56b0 : decide (0 ≤ x13_3) = true := decide_eq_true c56
                                clear c56
                                by_cases c57 : x13_3 < (x1103001_3.length : Int)
                                · rw [if_pos c57] at H
                                  have c57b0 : decide (x13_3 < (x1103001_3.length : Int)) = true := decide_eq_true c57
                                  clear c57
                                  obtain ⟨y1112, hy1112⟩ : ∃ y_ : List Int, y_ = (x1103001_3.set (x13_3 : Int).toNat t1111) := ⟨_, rfl⟩
                                  replace H : (spec_FindJacobi.j3 k3 a0 x2_3 x13_3 t1105 a0 y1112 x1103002_3) = some (r1, r2, r3, r4) := by first | (rw [hy1112]; with_reducible exact H) | (have H2_ := (Option.bind_some _ _).symm.trans H; rw [hy1112]; with_reducible exact H2_) | (have H2_ := (Option.bind_some _ _).symm.trans H; with_reducible exact H2_) | with_reducible exact H | (rw [hy1112]; exact H) | exact H
                                  have Ny1112 := Aside0.mk hy1112
                                  clear hy1112
                                  have H' := Aside0.mk H
                                  clear H
                                  try go_wp2
                                  have n0_ := Aside0.mk (Kd.V_drew HO_1.out)
                                  have n1_ := Aside0.mk (Kd.V_drew HO_2.out)
                                  have n2_ := Aside0.mk (Kd.R_drew HO_1103001.out)
                                  have n3_ := Aside0.mk (Kd.R_drew HO_1103002.out)
                                  have n4_ := Aside0.mk (Kd.R_drew HO1107.out)
                                  have n5_ := Aside0.mk (Kd.R_drew HO1109.out)
                                  have n6_ := Aside0.mk (blk_drew BK1088.out)
                                  have n7_ := Aside0.mk (blk_drew BK1102.out)
                                  have n8_ := Aside0.mk (below_drew1 HB.out)
                                  clear HO_1
                                  clear HO_2
                                  clear HO_1103001
                                  clear HO_1103002
                                  clear HO1107
                                  clear HO1109
                                  clear BK1088
                                  clear BK1102
                                  clear HB
                                  have HO_1 := n0_
                                  have HO_2 := n1_
                                  have HO_1103001 := n2_
                                  have HO_1103002 := n3_
                                  have HO1107 := n4_
                                  have HO1109 := n5_
                                  have BK1088 := n6_
                                  have BK1102 := n7_
                                  have HB := n8_
                                  clear n0_ n1_ n2_ n3_ n4_ n5_ n6_ n7_ n8_
                                  have p1110 : 0 ≤ (0 : Int) := (by omega)
                                  have q1110 : 0 < (t1104.length : Int) := of_decide_eq_true (by first | (with_reducible assumption) | assumption)
                                  obtain ⟨ad1110, e1110, hx1110_0⟩ := Kd.at_int (Kd.R_reads' HO1107.out).2.2 0 p1110 q1110
                                  cases e1110
                                  have qi1110 : (0 < t1104.length) = True := eq_true (by omega)
                                  (try rw [show ((0 : Int)).toNat = 0 from rfl] at hx1110_0)
                                  (try rw [Addr.add_zero'] at hx1110_0)
                                  replace p1110 := eq_true p1110
                                  replace q1110 := eq_true q1110
                                  refine start_ (n := 11) (S := fun w' => w'.cell? ⟨gb1102, 0, none⟩ = some (.int .i64 a0) ∧ w'.cell? ⟨gb1102, 1, none⟩ = some (u1103001) ∧ w'.cell? ⟨gb1102, 2, none⟩ = some (u1103002) ∧ w'.cell? ad1110 = some (.int .i64 (rd t1104 0))) (ds := [10]) #[false, false, false, false, false, false, false, false, false, false, false] (by kernel_rfl) rfl rfl ⟨(blk_cell BK1102.out 0).trans rfl, (blk_cell BK1102.out 1).trans rfl, (blk_cell BK1102.out 2).trans rfl, hx1110_0⟩ (fun hHeld => ?_); refine with_tabW spec_FindJacobi.tab13 spec_FindJacobi.bits13 (fun HT_ HW_ => ?_)
                                  generalize w51.drew = w59 at HO_1 HO_2 HO_1103001 HO_1103002 HO1107 HO1109 BK1088 BK1102 HB hx1110_0 hHeld ⊢
                                  refine pure_ (i := 0) (N := some 84) (v := ?_) (a' := ?_) #[true, false, false, false, false, false, false, false, false, false, false] rfl rfl (any_of HT_.out (by kernel_rfl)) (fun _ _ _ h => h) (Or.inl ⟨by rfl, ?_⟩) ?_ ?_
                                  rotate_left
                                  · intro w'
                                    go_simp
                                    with_reducible rfl
                                  rotate_left
                                  · simp only [Act.put, List.setIfInBounds_toArray, List.set_cons_zero, List.set_cons_succ, i64_w, i32_w]
                                    rfl
                                  refine pure_ (i := 2) (N := some 86) (v := ?_) (a' := ?_) #[true, false, true, false, false, false, false, false, false, false, false] rfl rfl (any_of HT_.out (by kernel_rfl)) (fun _ _ _ h => h) (Or.inl ⟨by rfl, ?_⟩) ?_ ?_
                                  rotate_left
                                  · intro w'
                                    go_simp
                                    with_reducible rfl
                                  rotate_left
                                  · simp only [Act.put, List.setIfInBounds_toArray, List.set_cons_zero, List.set_cons_succ, i64_w, i32_w]
                                    rfl
                                  refine pure_ (i := 3) (N := some 87) (v := ?_) (a' := ?_) #[true, false, true, true, false, false, false, false, false, false, false] rfl rfl (any_of HT_.out (by kernel_rfl)) (fun _ _ _ h => h) (Or.inl ⟨by rfl, ?_⟩) ?_ ?_
                                  rotate_left
                                  · intro w'
                                    go_simp
                                    with_reducible rfl
                                  rotate_left
                                  · simp only [Act.put, List.setIfInBounds_toArray, List.set_cons_zero, List.set_cons_succ, i64_w, i32_w]
                                    rfl
                                  refine pure_ (i := 4) (N := some 88) (v := ?_) (a' := ?_) #[true, false, true, true, true, false, false, false, false, false, false] rfl rfl (any_of HT_.out (by kernel_rfl)) (fun _ _ _ h => h) (Or.inl ⟨by rfl, ?_⟩) ?_ ?_
                                  rotate_left
                                  · intro w'
                                    go_simp
                                    with_reducible rfl
                                  rotate_left
                                  · simp only [Act.put, List.setIfInBounds_toArray, List.set_cons_zero, List.set_cons_succ, i64_w, i32_w]
                                    rfl
                                  refine pure_ (i := 5) (N := some 89) (v := ?_) (a' := ?_) #[true, false, true, true, true, true, false, false, false, false, false] rfl rfl (any_of HT_.out (by kernel_rfl)) (fun _ _ _ h => h) (Or.inl ⟨by rfl, ?_⟩) ?_ ?_
                                  rotate_left
                                  · intro w'
                                    go_simp
                                    with_reducible rfl
                                  rotate_left
                                  · simp only [Act.put, List.setIfInBounds_toArray, List.set_cons_zero, List.set_cons_succ, i64_w, i32_w]
                                    rfl
                                  refine take_ (i := 1) (N := some 85) (v := ?_) (a' := ?_) #[true, true, true, true, true, true, false, false, false, false, false] rfl rfl (take_ofW HT_.out HW_.out (by kernel_rfl)) (fun _ _ _ h => h) (Or.inl ⟨by rfl, ?_⟩) hHeld ?_ ?_
                                  rotate_left
                                  · rintro w' ⟨s0, s1, s2, s3⟩
                                    go_simp
                                    with_reducible rfl
                                  rotate_left
                                  · simp only [Act.put, List.setIfInBounds_toArray, List.set_cons_zero, List.set_cons_succ, i64_w, i32_w]
                                    rfl
                                  refine take_ (i := 6) (N := some 90) (v := ?_) (a' := ?_) #[true, true, true, true, true, true, true, false, false, false, false] rfl rfl (take_ofW HT_.out HW_.out (by kernel_rfl)) (fun _ _ _ h => h) (Or.inl ⟨by rfl, ?_⟩) hHeld ?_ ?_
                                  rotate_left
                                  · rintro w' ⟨s0, s1, s2, s3⟩
                                    go_simp
                                    with_reducible rfl
                                  rotate_left
                                  · simp only [Act.put, List.setIfInBounds_toArray, List.set_cons_zero, List.set_cons_succ, i64_w, i32_w]
                                    rfl
                                  refine pure_ (i := 7) (N := some 91) (v := ?_) (a' := ?_) #[true, true, true, true, true, true, true, true, false, false, false] rfl rfl (any_of HT_.out (by kernel_rfl)) (fun _ _ _ h => h) (Or.inl ⟨by rfl, ?_⟩) ?_ ?_
                                  rotate_left
                                  · intro w'
                                    go_simp
                                    with_reducible rfl
                                  rotate_left
                                  · simp only [Act.put, List.setIfInBounds_toArray, List.set_cons_zero, List.set_cons_succ, i64_w, i32_w]
                                    rfl
                                  refine one_ (i := 8) (N := some 92) #[true, true, true, true, true, true, true, true, true, false, false] rfl rfl (one_of HT_.out (by kernel_rfl)) (by decide) (fun K hK => ?_)
                                  refine goes_ Try.func93 (by kernel_rfl) rfl #[.int .i64 a0, .int .i64 (wrap64 (-(rd t1104 0)))] (by rfl) rfl rfl (by (try simp only [List.map_toArray, List.map_cons, List.map_nil]); first | done | rfl | (simp only [List.length_drop, List.length_take]; rfl)) ?_
                                  with_reducible refine (spec_l01Mod.calls a0 (wrap64 (-(rd t1104 0))) t1111 _ A55.out).mono ?_
                                  rintro e w' ⟨rfl, ⟨nd, rfl⟩⟩
                                  refine ⟨_, rfl, ?_⟩
                                  have p58 : 0 ≤ (x13_3 : Int) := of_decide_eq_true (by first | (with_reducible assumption) | assumption)
                                  have q58 : (x13_3 : Int) < ((x1103001_3.length : Int) : Int) := of_decide_eq_true (by first | (with_reducible assumption) | assumption)
                                  obtain ⟨go58, co58, eo58, gb58, gl58, cl58, HG58⟩ := Kd.R_form HO_1103001.out (by omega)
                                  (first | cases eo58 | (injection eo58 with ea_ en_ ec_; (first | subst ea_ | (injection ea_ with ea_; subst ea_)); subst ec_; clear en_))
                                  have GB58 := Aside0.mk gb58
                                  have GG58 := Aside0.mk HG58
                                  clear gb58 gl58 HG58
                                  obtain ⟨hx58_0, hf58_0⟩ := Kd.R_celln 0 HO_1103001.out (x13_3 : Int) p58 q58
                                  replace p58 := eq_true p58
                                  replace q58 := eq_true q58
                                  have HP60 := Kd.R_putn HO_1103001.out (x13_3 : Int) t1111
                                  rw [← Ny1112.out] at HP60
                                  have HQ60 := Aside0.mk HP60
                                  clear HP60
                                  refine hK.out _ _ ⟨(blk_cell BK1102.out 0).trans rfl, (blk_cell BK1102.out 1).trans rfl, (blk_cell BK1102.out 2).trans rfl, hHeld.2.2.2⟩ (fun hHeld => ?_)
                                  clear hK K
                                  refine norm_ (a' := ?_) ?_ ?_
                                  rotate_left
                                  · show Act.put _ (some 92) _ = _
                                    simp only [Act.put, List.setIfInBounds_toArray, List.set_cons_zero, List.set_cons_succ, i64_w, i32_w]
                                    rfl
                                  refine pure_ (i := 9) (N := some 93) (v := ?_) (a' := ?_) #[true, true, true, true, true, true, true, true, true, true, false] rfl rfl (any_of HT_.out (by kernel_rfl)) (fun _ _ _ h => h) (Or.inl ⟨by rfl, ?_⟩) ?_ ?_
                                  rotate_left
                                  · intro w'
                                    go_simp
                                    with_reducible rfl
                                  rotate_left
                                  · simp only [Act.put, List.setIfInBounds_toArray, List.set_cons_zero, List.set_cons_succ, i64_w, i32_w]
                                    rfl
                                  refine last_ (i := 10) (N := none) #[true, true, true, true, true, true, true, true, true, true, true] rfl rfl (one_of HT_.out (by kernel_rfl)) (by decide) (fun K hK => ?_)
                                  refine skip_ (w1 := ?_) (by rfl) rfl ?_ ?_
                                  rotate_left
                                  · go_simp
                                    rfl
                                  refine hK.out _ _ ?_
                                  clear hK K
                                  refine done_ (done_of HT_.out (by kernel_rfl)) ?_
                                  try go_wp2
                                  go_meet
                                  case rel => exact ⟨_, (x2_3), (t1105), (y1112), (x1103002_3), (.slice (some ⟨go58, 0, none⟩) x1103001_3.length co58), (u1103002), H', ⟨by have := HJ5.out; have := HJ18.out; have := HK3.out; first | omega | exact Nat.le_refl _⟩, ⟨by (with_reducible repeat (first | apply Kd.V_alloc | apply Kd.V_drewN | apply Kd.V_drew)); exact Kd.V_mono (Kd.V_far (p := ⟨go58, (x13_3 : Int).toNat, none⟩) (Kd.V_mono HO_2.out (fun k_ hk => (⟨hk, fun e_ => hk.1.1.2.1 (by rw [e_]; rfl)⟩ : _ ∧ k_ ≠ go58))) (fun _ hk => hk.2) (.int .i64 t1111)) (fun _ hk => ⟨hk.1.1.1.1, ⟨hk.1.2, ⟨hk.1.1.1.2.1, ⟨hk.1.1.1.2.2.1, ⟨hk.1.1.1.2.2.2.1, hk.1.1.1.2.2.2.2⟩⟩⟩⟩⟩)⟩, ⟨by (with_reducible repeat (first | apply Kd.R_alloc | apply Kd.R_drewN | apply Kd.R_drew)); exact Kd.R_mono (Kd.R_far (p := ⟨go58, (x13_3 : Int).toNat, none⟩) (Kd.R_mono HO1109.out (fun k_ hk => (⟨hk, fun e_ => hk.1.2 (by rw [e_]; rfl)⟩ : _ ∧ k_ ≠ go58))) (fun _ hk => hk.2) (.int .i64 t1111)) (fun _ hk => ⟨hk.1.1.1.1, ⟨hk.1.1.2, hk.1.2⟩⟩)⟩, ⟨by (with_reducible repeat (first | apply Kd.R_alloc | apply Kd.R_drewN | apply Kd.R_drew)); exact Kd.R_mono HQ60.out (fun _ hk => ⟨hk.1.1.1, ⟨hk.2, hk.1.1.2⟩⟩)⟩, ⟨by (with_reducible repeat (first | apply Kd.R_alloc | apply Kd.R_drewN | apply Kd.R_drew)); exact Kd.R_mono (Kd.R_far (p := ⟨go58, (x13_3 : Int).toNat, none⟩) (Kd.R_mono HO_1103002.out (fun k_ hk => (⟨hk, fun e_ => hk.1.1.2 (by rw [e_]; rfl)⟩ : _ ∧ k_ ≠ go58))) (fun _ hk => hk.2) (.int .i64 t1111)) (fun _ hk => ⟨hk.1.1.1.1, ⟨hk.1.2, hk.1.1.1.2⟩⟩)⟩, ⟨by (with_reducible repeat (first | refine blk_drewN ?_ _ | refine blk_drew ?_ | refine blk_alloc ?_ _)); refine blk_far ?_ (by have h_ := Kd.R_ne HO_1103001.out BK1088.out (by decide); intro e_; exact h_ (by rw [e_]; rfl)) _; (with_reducible repeat (first | refine blk_drewN ?_ _ | refine blk_drew ?_ | refine blk_alloc ?_ _)); exact BK1088.out⟩, ⟨by (with_reducible repeat (first | refine blk_drewN ?_ _ | refine blk_drew ?_ | refine blk_alloc ?_ _)); refine blk_far ?_ (by have h_ := Kd.R_ne HO_1103001.out BK1102.out (by decide); intro e_; exact h_ (by rw [e_]; rfl)) _; (with_reducible repeat (first | refine blk_drewN ?_ _ | refine blk_drew ?_ | refine blk_alloc ?_ _)); exact BK1102.out⟩, ⟨by repeat (first | (with_reducible first | exact HB.out | apply below_alloc | apply pw_below_drewN | apply below_drew1 | refine below_set ?_ GB58.out | refine below_set ?_ GE1088.out | refine below_set ?_ GE1102.out) | exact HB.out)⟩⟩
                                · rw [if_neg c57] at H
                                  exact absurd H (by simp)
                              · rw [if_neg c56] at H
                                exact absurd H (by simp)
                            · rw [if_neg c54] at H
                              exact absurd H (by simp)
                          · rw [if_neg c53] at H
                            have c53b0 : decide (0 < (t1104.length : Int)) = false := decide_eq_false c53
                            have c53b1 : decide (0 < t1104.length) = false := decide_eq_false (by omega)
                            clear c53
                            (first | rw [c53b0] | rw [c53b1] | (simp only [i64_w, i32_w]; rw [c53b0]) | skip)
                            have H' := Aside0.mk H
                            clear H
                            go_wp2
                            go_meet
                            case rel => exact ⟨_, (x2_3), (t1105), (x1103001_3), (x1103002_3), (u1103001), (u1103002), H', ⟨by have := HJ5.out; have := HJ18.out; have := HK3.out; first | omega | exact Nat.le_refl _⟩, ⟨by (with_reducible repeat (first | apply Kd.V_alloc | apply Kd.V_drewN | apply Kd.V_drew)); exact Kd.V_mono HO_2.out (fun _ hk => ⟨hk.1.1.1, ⟨hk.2, ⟨hk.1.1.2.1, ⟨hk.1.1.2.2.1, ⟨hk.1.1.2.2.2.1, hk.1.1.2.2.2.2⟩⟩⟩⟩⟩)⟩, ⟨by (with_reducible repeat (first | apply Kd.R_alloc | apply Kd.R_drewN | apply Kd.R_drew)); exact Kd.R_mono HO1109.out (fun _ hk => ⟨hk.1.1.1, ⟨hk.1.2, hk.2⟩⟩)⟩, ⟨by (with_reducible repeat (first | apply Kd.R_alloc | apply Kd.R_drewN | apply Kd.R_drew)); exact Kd.R_mono HO_1103001.out (fun _ hk => ⟨hk.1.1.1, ⟨hk.2, hk.1.1.2⟩⟩)⟩, ⟨by (with_reducible repeat (first | apply Kd.R_alloc | apply Kd.R_drewN | apply Kd.R_drew)); exact Kd.R_mono HO_1103002.out (fun _ hk => ⟨hk.1.1.1, ⟨hk.2, hk.1.1.2⟩⟩)⟩, ⟨by (with_reducible repeat (first | refine blk_drewN ?_ _ | refine blk_drew ?_ | refine blk_alloc ?_ _)); exact BK1088.out⟩, ⟨by (with_reducible repeat (first | refine blk_drewN ?_ _ | refine blk_drew ?_ | refine blk_alloc ?_ _)); exact BK1102.out⟩, ⟨by repeat (first | (with_reducible first | exact HB.out | apply below_alloc | apply pw_below_drewN | apply below_drew1 | refine below_set ?_ GE1088.out | refine below_set ?_ GE1102.out) | exact HB.out)⟩⟩
                        case rest =>
                          clear HC48
                          try clear c1
                          try clear p1
                          try clear q1
                          try clear hx1
                          try clear qi1
                          try clear c2
                          try clear p2
                          try clear q2
                          try clear hx2
                          try clear qi2
                          try clear c4
                          try clear c5
                          try clear p5
                          try clear q5
                          try clear hx5
                          try clear hf5
                          try clear c6
                          try clear p6
                          try clear c9
                          try clear p11
                          try clear q11
                          try clear hx11
                          try clear qi11
                          try clear p26
                          try clear q26
                          try clear hx26
                          try clear qi26
                          try clear hf26
                          try clear c42
                          try clear c46
                          try clear c46b0
                          try clear c53
                          try clear c53b0
                          try clear c53b1
                          try clear c54
                          try clear c54b0
                          try clear c54b1
                          try clear c56
                          try clear c56b0
                          try clear c57
                          try clear c57b0
                          try clear p58
                          try clear q58
                          try clear hx58
                          try clear hf58
                          try clear hcz43_0
                          try clear hcz43_1
                          try clear hcz43_2
                          try clear hfz43_0
                          try clear hfz43_1
                          try clear hfz43_2
                          try clear hx1110_0
                          try clear hx26_0
                          try clear hx58_0
                          try clear p1110
                          try clear p2
                          try clear p26
                          try clear p58
                          try clear p6
                          try clear q1110
                          try clear q2
                          try clear q26
                          try clear q58
                          obtain ⟨kq, x2_47, x15_47, x1103001_47, x1103002_47, u1103001, u1103002, HA, HJ47, HO_2, HO_15, HO_1103001, HO_1103002, BK1088, BK1102, HB⟩ := hcut
                          have hl2_47 := (Kd.V_reads' HO_2.out).1
                          rw [hl2_47] at HO_2
                          (try simp only [hl2_47])
                          (try simp only [hl2_47] at BK1088)
                          (try simp only [hl2_47] at BK1102)
                          (try simp only [hl2_47] at HO_15)
                          (try simp only [hl2_47] at HO_1103001)
                          (try simp only [hl2_47] at HO_1103002)
                          cases kq with
                          | zero => exact absurd HA.out (by simp [spec_FindJacobi.j3])
                          | succ kj47 =>
                            have H := HA.out
                            clear HA
                            simp only [spec_FindJacobi.j3] at H
                            by_cases c61 : x13_3 = 0
                            · rw [if_pos c61] at H
                              have c61b0 : (x13_3 == 0) = true := beq_iff_eq.mpr c61
                              have c61b1 : (x13_3 != 0) = false := bne_eq_false_iff_eq.mpr c61
                              clear c61
                              simp only [Option.some.injEq, Prod.mk.injEq] at H
                              obtain ⟨rfl, rfl, rfl, rfl⟩ := H
                              have hnb62 := NB1102_1088.out
                              have hnc62 := NB1088_1102.out
                              have hcz63_0 : wc.cell? ⟨gb1102, 0, none⟩ = some (.int .i64 a0) := (blk_cell BK1102.out 0).trans rfl
                              have hcz63_1 : wc.cell? ⟨gb1102, 1, none⟩ = some (u1103001) := (blk_cell BK1102.out 1).trans rfl
                              have hcz63_2 : wc.cell? ⟨gb1102, 2, none⟩ = some (u1103002) := (blk_cell BK1102.out 2).trans rfl
                              have hfz63_0 := blk_frozen BK1102.out 0
                              have hfz63_1 := blk_frozen BK1102.out 1
                              have hfz63_2 := blk_frozen BK1102.out 2
                              have hcz64_0 : wc.cell? ⟨gb1088, 0, none⟩ = some (.int .i64 x1089000_3) := (blk_cell BK1088.out 0).trans rfl
                              have hcz64_1 : wc.cell? ⟨gb1088, 1, none⟩ = some (.slice none 0 0) := (blk_cell BK1088.out 1).trans rfl
                              have hcz64_2 : wc.cell? ⟨gb1088, 2, none⟩ = some (.slice none 0 0) := (blk_cell BK1088.out 2).trans rfl
                              have hfz64_0 := blk_frozen BK1088.out 0
                              have hfz64_1 := blk_frozen BK1088.out 1
                              have hfz64_2 := blk_frozen BK1088.out 2
                              obtain ⟨Ao65, co65, eo65⟩ := Kd.R_slice HO_1103001.out
                              subst eo65
                              obtain ⟨Ao66, co66, eo66⟩ := Kd.R_slice HO_1103002.out
                              subst eo66
                              go_wp2
                              refine bodyPost_ret (results_ct rfl _ _ gb1088 52 #[.int .i64 a0, .slice Ao65 x1103001_47.length co65, .slice Ao66 x1103002_47.length co66] (0, 0) _ rfl (by (with_reducible repeat (first | refine blk_drewN ?_ _ | refine blk_drew ?_ | refine blk_alloc ?_ _)); refine blk_put (cs := #[.int .i64 a0, .slice Ao65 x1103001_47.length co65, .slice none 0 0]) ?_ 2 _ rfl; (with_reducible repeat (first | refine blk_drewN ?_ _ | refine blk_drew ?_ | refine blk_alloc ?_ _)); refine blk_put (cs := #[.int .i64 a0, .slice none 0 0, .slice none 0 0]) ?_ 1 _ rfl; (with_reducible repeat (first | refine blk_drewN ?_ _ | refine blk_drew ?_ | refine blk_alloc ?_ _)); refine blk_put (cs := #[.int .i64 x1089000_3, .slice none 0 0, .slice none 0 0]) ?_ 0 _ rfl; (with_reducible repeat (first | refine blk_drewN ?_ _ | refine blk_drew ?_ | refine blk_alloc ?_ _)); exact BK1088.out) Try.underlying52 rfl (by kernel_rfl)) rfl ?_
                              exact ⟨_, _, by first | rfl | (simp [errW_none, errW_some] <;> rfl) | (simp only [← hji22]; first | rfl | (simp [errW_none, errW_some] <;> rfl)) | (simp [*, errW_none, errW_some] <;> rfl), by (with_reducible repeat (first | apply Kd.R_alloc | apply Kd.R_drewN | apply Kd.R_drew)); exact Kd.R_mono (Kd.R_far (p := ⟨gb1088, 2, none⟩) (Kd.R_far (p := ⟨gb1088, 1, none⟩) (Kd.R_far (p := ⟨gb1088, 0, none⟩) (Kd.R_types HO_1103001.out BK1088.out (by decide)) (fun _ hk => hk.2) (.int .i64 a0)) (fun _ hk => hk.2) (.slice Ao65 x1103001_47.length co65)) (fun _ hk => hk.2) (.slice Ao66 x1103002_47.length co66)) (fun _ hk => ⟨hk.1.1, hk.1.2.2⟩), by (with_reducible repeat (first | apply Kd.R_alloc | apply Kd.R_drewN | apply Kd.R_drew)); exact Kd.R_mono (Kd.R_far (p := ⟨gb1088, 2, none⟩) (Kd.R_far (p := ⟨gb1088, 1, none⟩) (Kd.R_far (p := ⟨gb1088, 0, none⟩) (Kd.R_types HO_1103002.out BK1088.out (by decide)) (fun _ hk => hk.2) (.int .i64 a0)) (fun _ hk => hk.2) (.slice Ao65 x1103001_47.length co65)) (fun _ hk => hk.2) (.slice Ao66 x1103002_47.length co66)) (fun _ hk => ⟨hk.1.1, hk.1.2.2⟩), by repeat (first | (with_reducible first | exact HB.out | apply below_alloc | apply pw_below_drewN | apply below_drew1 | refine below_set ?_ GE1088.out | refine below_set ?_ GE1102.out) | exact HB.out)⟩
                            · rw [if_neg c61] at H
                              have c61b0 : (x13_3 == 0) = false := beq_eq_false_iff_ne.mpr c61
                              have c61b1 : (x13_3 != 0) = true := bne_iff_ne.mpr c61
                              by_cases c67 : (x15_47.length : Int) = x13_3
                              · rw [if_pos c67] at H
                                have c67b0 : ((x15_47.length : Int) == x13_3) = true := beq_iff_eq.mpr c67
                                have c67b1 : ((x15_47.length : Int) != x13_3) = false := bne_eq_false_iff_eq.mpr c67
                                clear c67
                                obtain ⟨ji68, hji68⟩ : ∃ j_ : Int, (wrap64 (x13_3 - 1)) = j_ := ⟨_, rfl⟩
                                replace H : (if 0 ≤ (ji68) then (if (ji68) < (x15_47.length : Int) then ((spec_l01Mod.f a0 (wrap64 (-(rd x15_47 (ji68))))).bind fun t1114 => (if 0 ≤ x13_3 then (if x13_3 < (x1103002_47.length : Int) then ((spec_l01Monic.f kj47 a0 x15_47).bind fun t1116 => (spec_FindJacobi.l0 kj47 a0 x2_47 t1116 ji68 a0 x1103001_47 (x1103002_47.set (x13_3 : Int).toNat t1114))) else (none)) else (none))) else (none)) else (none)) = some (r1, r2, r3, r4) := by first | (rw [hji68] at H; exact H) | (simp only [hji68] at H ⊢; exact H)
                                have hji68w : (IntKind.i64.wrap (x13_3 - 1)) = ji68 := (i64_w _).trans hji68
                                by_cases c69 : 0 ≤ (ji68)
                                · rw [if_pos c69] at H
                                  have c69b0 : decide (0 ≤ (ji68)) = true := decide_eq_true c69
                                  clear c69
                                  by_cases c70 : (ji68) < (x15_47.length : Int)
                                  · rw [if_pos c70] at H
                                    have c70b0 : decide ((ji68) < (x15_47.length : Int)) = true := decide_eq_true c70
                                    clear c70
                                    replace H := Option.bind_eq_some_iff.mp H
                                    obtain ⟨t1114, A710, H⟩ := H
                                    have A71 := Aside0.mk A710
                                    clear A710
                                    by_cases c72 : 0 ≤ x13_3
                                    · rw [if_pos c72] at H
                                      have c72b0 : decide (0 ≤ x13_3) = true := decide_eq_true c72
                                      clear c72
                                      by_cases c73 : x13_3 < (x1103002_47.length : Int)
                                      · rw [if_pos c73] at H
                                        have c73b0 : decide (x13_3 < (x1103002_47.length : Int)) = true := decide_eq_true c73
                                        clear c73
                                        obtain ⟨y1115, hy1115⟩ : ∃ y_ : List Int, y_ = (x1103002_47.set (x13_3 : Int).toNat t1114) := ⟨_, rfl⟩
                                        replace H : ((spec_l01Monic.f kj47 a0 x15_47).bind fun t1116 => (spec_FindJacobi.l0 kj47 a0 x2_47 t1116 ji68 a0 x1103001_47 y1115)) = some (r1, r2, r3, r4) := by first | (rw [hy1115]; with_reducible exact H) | (have H2_ := (Option.bind_some _ _).symm.trans H; rw [hy1115]; with_reducible exact H2_) | (have H2_ := (Option.bind_some _ _).symm.trans H; with_reducible exact H2_) | with_reducible exact H | (rw [hy1115]; exact H) | exact H
                                        have Ny1115 := Aside0.mk hy1115
                                        clear hy1115
                                        replace H := Option.bind_eq_some_iff.mp H
                                        obtain ⟨t1116, A750, H⟩ := H
                                        have A75 := Aside0.mk A750
                                        clear A750
                                        have H' := Aside0.mk H
                                        clear H
                                        obtain ⟨Ao76, co76, eo76⟩ := Kd.R_slice HO_15.out
                                        subst eo76
                                        try go_wp2
                                        have n0_ := Aside0.mk (Kd.V_drew HO_2.out)
                                        have n1_ := Aside0.mk (Kd.R_drew HO_15.out)
                                        have n2_ := Aside0.mk (Kd.R_drew HO_1103001.out)
                                        have n3_ := Aside0.mk (Kd.R_drew HO_1103002.out)
                                        have n4_ := Aside0.mk (blk_drew BK1088.out)
                                        have n5_ := Aside0.mk (blk_drew BK1102.out)
                                        have n6_ := Aside0.mk (below_drew1 HB.out)
                                        clear HO_2
                                        clear HO_15
                                        clear HO_1103001
                                        clear HO_1103002
                                        clear BK1088
                                        clear BK1102
                                        clear HB
                                        have HO_2 := n0_
                                        have HO_15 := n1_
                                        have HO_1103001 := n2_
                                        have HO_1103002 := n3_
                                        have BK1088 := n4_
                                        have BK1102 := n5_
                                        have HB := n6_
                                        clear n0_ n1_ n2_ n3_ n4_ n5_ n6_
                                        have p1113 : 0 ≤ ((ji68) : Int) := of_decide_eq_true (by first | (with_reducible assumption) | assumption)
                                        have q1113 : (ji68) < (x15_47.length : Int) := of_decide_eq_true (by first | (with_reducible assumption) | assumption)
                                        obtain ⟨ad1113, e1113, hx1113_0⟩ := Kd.at_int (Kd.R_reads' HO_15.out).2.2 (ji68) p1113 q1113
                                        cases e1113
                                        replace p1113 := eq_true p1113
                                        replace q1113 := eq_true q1113
                                        refine start_ (n := 13) (S := fun w' => w'.cell? ⟨gb1102, 0, none⟩ = some (.int .i64 a0) ∧ w'.cell? ⟨gb1102, 1, none⟩ = some (u1103001) ∧ w'.cell? ⟨gb1102, 2, none⟩ = some (u1103002) ∧ w'.cell? (ad1113.add ((ji68)).toNat) = some (.int .i64 (rd x15_47 (ji68)))) (ds := [12]) #[false, false, false, false, false, false, false, false, false, false, false, false, false] (by kernel_rfl) rfl rfl ⟨(blk_cell BK1102.out 0).trans rfl, (blk_cell BK1102.out 1).trans rfl, (blk_cell BK1102.out 2).trans rfl, hx1113_0⟩ (fun hHeld => ?_); refine with_tabW spec_FindJacobi.tab17 spec_FindJacobi.bits17 (fun HT_ HW_ => ?_)
                                        generalize wc.drew = w77 at HO_2 HO_15 HO_1103001 HO_1103002 BK1088 BK1102 HB hx1113_0 hHeld ⊢
                                        refine pure_ (i := 0) (N := some 101) (v := ?_) (a' := ?_) #[true, false, false, false, false, false, false, false, false, false, false, false, false] rfl rfl (any_of HT_.out (by kernel_rfl)) (fun _ _ _ h => h) (Or.inl ⟨by rfl, ?_⟩) ?_ ?_
                                        rotate_left
                                        · intro w'
                                          go_simp
                                          with_reducible rfl
                                        rotate_left
                                        · simp only [Act.put, List.setIfInBounds_toArray, List.set_cons_zero, List.set_cons_succ, i64_w, i32_w]
                                          rfl
                                        refine pure_ (i := 2) (N := some 103) (v := ?_) (a' := ?_) #[true, false, true, false, false, false, false, false, false, false, false, false, false] rfl rfl (any_of HT_.out (by kernel_rfl)) (fun _ _ _ h => h) (Or.inl ⟨by rfl, ?_⟩) ?_ ?_
                                        rotate_left
                                        · intro w'
                                          go_simp
                                          with_reducible rfl
                                        rotate_left
                                        · simp only [Act.put, List.setIfInBounds_toArray, List.set_cons_zero, List.set_cons_succ, i64_w, i32_w]
                                          rfl
                                        refine pure_ (i := 3) (N := some 104) (v := ?_) (a' := ?_) #[true, false, true, true, false, false, false, false, false, false, false, false, false] rfl rfl (any_of HT_.out (by kernel_rfl)) (fun _ _ _ h => h) (Or.inl ⟨by rfl, ?_⟩) ?_ ?_
                                        rotate_left
                                        · intro w'
                                          go_simp
                                          with_reducible rfl
                                        rotate_left
                                        · simp only [Act.put, List.setIfInBounds_toArray, List.set_cons_zero, List.set_cons_succ, i64_w, i32_w]
                                          rfl
                                        refine pure_ (i := 4) (N := some 105) (v := ?_) (a' := ?_) #[true, false, true, true, true, false, false, false, false, false, false, false, false] rfl rfl (any_of HT_.out (by kernel_rfl)) (fun _ _ _ h => h) (Or.inl ⟨by rfl, ?_⟩) ?_ ?_
                                        rotate_left
                                        · intro w'
                                          go_simp
                                          with_reducible rfl
                                        rotate_left
                                        · simp only [Act.put, List.setIfInBounds_toArray, List.set_cons_zero, List.set_cons_succ, i64_w, i32_w]
                                          rfl
                                        refine pure_ (i := 5) (N := some 106) (v := ?_) (a' := ?_) #[true, false, true, true, true, true, false, false, false, false, false, false, false] rfl rfl (any_of HT_.out (by kernel_rfl)) (fun _ _ _ h => h) (Or.inl ⟨by rfl, ?_⟩) ?_ ?_
                                        rotate_left
                                        · intro w'
                                          go_simp
                                          with_reducible rfl
                                        rotate_left
                                        · simp only [Act.put, List.setIfInBounds_toArray, List.set_cons_zero, List.set_cons_succ, i64_w, i32_w]
                                          rfl
                                        refine pure_ (i := 6) (N := some 107) (v := ?_) (a' := ?_) #[true, false, true, true, true, true, true, false, false, false, false, false, false] rfl rfl (any_of HT_.out (by kernel_rfl)) (fun _ _ _ h => h) (Or.inl ⟨by rfl, ?_⟩) ?_ ?_
                                        rotate_left
                                        · intro w'
                                          go_simp
                                          with_reducible rfl
                                        rotate_left
                                        · simp only [Act.put, List.setIfInBounds_toArray, List.set_cons_zero, List.set_cons_succ, i64_w, i32_w]
                                          rfl
                                        refine pure_ (i := 7) (N := some 108) (v := ?_) (a' := ?_) #[true, false, true, true, true, true, true, true, false, false, false, false, false] rfl rfl (any_of HT_.out (by kernel_rfl)) (fun _ _ _ h => h) (Or.inl ⟨by rfl, ?_⟩) ?_ ?_
                                        rotate_left
                                        · intro w'
                                          go_simp
                                          with_reducible rfl
                                        rotate_left
                                        · simp only [Act.put, List.setIfInBounds_toArray, List.set_cons_zero, List.set_cons_succ, i64_w, i32_w]
                                          rfl
                                        refine take_ (i := 1) (N := some 102) (v := ?_) (a' := ?_) #[true, true, true, true, true, true, true, true, false, false, false, false, false] rfl rfl (take_ofW HT_.out HW_.out (by kernel_rfl)) (fun _ _ _ h => h) (Or.inl ⟨by rfl, ?_⟩) hHeld ?_ ?_
                                        rotate_left
                                        · rintro w' ⟨s0, s1, s2, s3⟩
                                          go_simp
                                          with_reducible rfl
                                        rotate_left
                                        · simp only [Act.put, List.setIfInBounds_toArray, List.set_cons_zero, List.set_cons_succ, i64_w, i32_w]
                                          rfl
                                        refine take_ (i := 8) (N := some 109) (v := ?_) (a' := ?_) #[true, true, true, true, true, true, true, true, true, false, false, false, false] rfl rfl (take_ofW HT_.out HW_.out (by kernel_rfl)) (fun _ _ _ h => h) (Or.inl ⟨by rfl, ?_⟩) hHeld ?_ ?_
                                        rotate_left
                                        · rintro w' ⟨s0, s1, s2, s3⟩
                                          go_simp
                                          with_reducible rfl
                                        rotate_left
                                        · simp only [Act.put, List.setIfInBounds_toArray, List.set_cons_zero, List.set_cons_succ, i64_w, i32_w]
                                          rfl
                                        refine pure_ (i := 9) (N := some 110) (v := ?_) (a' := ?_) #[true, true, true, true, true, true, true, true, true, true, false, false, false] rfl rfl (any_of HT_.out (by kernel_rfl)) (fun _ _ _ h => h) (Or.inl ⟨by rfl, ?_⟩) ?_ ?_
                                        rotate_left
                                        · intro w'
                                          go_simp
                                          with_reducible rfl
                                        rotate_left
                                        · simp only [Act.put, List.setIfInBounds_toArray, List.set_cons_zero, List.set_cons_succ, i64_w, i32_w]
                                          rfl
                                        refine one_ (i := 10) (N := some 111) #[true, true, true, true, true, true, true, true, true, true, true, false, false] rfl rfl (one_of HT_.out (by kernel_rfl)) (by decide) (fun K hK => ?_)
                                        refine goes_ Try.func93 (by kernel_rfl) rfl #[.int .i64 a0, .int .i64 (wrap64 (-(rd x15_47 (ji68))))] (by rfl) rfl rfl (by (try simp only [List.map_toArray, List.map_cons, List.map_nil]); first | done | (simp only [hji68]; rfl) | rfl | (simp only [List.length_drop, List.length_take]; rfl)) ?_
                                        with_reducible refine (spec_l01Mod.calls a0 (wrap64 (-(rd x15_47 (ji68)))) t1114 _ A71.out).mono ?_
                                        rintro e w' ⟨rfl, ⟨nd, rfl⟩⟩
                                        refine ⟨_, rfl, ?_⟩
                                        have m0_ := Aside0.mk (Kd.V_drewN HO_2.out nd)
                                        have m1_ := Aside0.mk (Kd.R_drewN HO_15.out nd)
                                        have m2_ := Aside0.mk (Kd.R_drewN HO_1103001.out nd)
                                        have m3_ := Aside0.mk (Kd.R_drewN HO_1103002.out nd)
                                        have m4_ := Aside0.mk (blk_drewN BK1088.out nd)
                                        have m5_ := Aside0.mk (blk_drewN BK1102.out nd)
                                        have m6_ := Aside0.mk (pw_below_drewN HB.out nd)
                                        clear HB BK1102 BK1088 HO_1103002 HO_1103001 HO_15 HO_2
                                        have HO_2 := m0_
                                        have HO_15 := m1_
                                        have HO_1103001 := m2_
                                        have HO_1103002 := m3_
                                        have BK1088 := m4_
                                        have BK1102 := m5_
                                        have HB := m6_
                                        clear m0_ m1_ m2_ m3_ m4_ m5_ m6_
                                        rw [show w77.cell? = (World.drewN w77 nd).cell? from rfl] at hHeld
                                        generalize World.drewN w77 nd = w77 at HO_2 HO_15 HO_1103001 HO_1103002 BK1088 BK1102 HB hHeld ⊢
                                        have p74 : 0 ≤ (x13_3 : Int) := of_decide_eq_true (by first | (with_reducible assumption) | assumption)
                                        have q74 : (x13_3 : Int) < ((x1103002_47.length : Int) : Int) := of_decide_eq_true (by first | (with_reducible assumption) | assumption)
                                        obtain ⟨go74, co74, eo74, gb74, gl74, cl74, HG74⟩ := Kd.R_form HO_1103002.out (by omega)
                                        (first | cases eo74 | (injection eo74 with ea_ en_ ec_; (first | subst ea_ | (injection ea_ with ea_; subst ea_)); subst ec_; clear en_))
                                        have GB74 := Aside0.mk gb74
                                        have GG74 := Aside0.mk HG74
                                        clear gb74 gl74 HG74
                                        obtain ⟨hx74_0, hf74_0⟩ := Kd.R_celln 0 HO_1103002.out (x13_3 : Int) p74 q74
                                        replace p74 := eq_true p74
                                        replace q74 := eq_true q74
                                        have HP78 := Kd.R_putn HO_1103002.out (x13_3 : Int) t1114
                                        rw [← Ny1115.out] at HP78
                                        have HQ78 := Aside0.mk HP78
                                        clear HP78
                                        refine hK.out _ _ ⟨(blk_cell BK1102.out 0).trans rfl, (blk_cell BK1102.out 1).trans rfl, (blk_cell BK1102.out 2).trans rfl, hHeld.2.2.2⟩ (fun hHeld => ?_)
                                        clear hK K
                                        refine norm_ (a' := ?_) ?_ ?_
                                        rotate_left
                                        · show Act.put _ (some 111) _ = _
                                          simp only [Act.put, List.setIfInBounds_toArray, List.set_cons_zero, List.set_cons_succ, i64_w, i32_w]
                                          rfl
                                        refine pure_ (i := 11) (N := some 112) (v := ?_) (a' := ?_) #[true, true, true, true, true, true, true, true, true, true, true, true, false] rfl rfl (any_of HT_.out (by kernel_rfl)) (fun _ _ _ h => h) (Or.inl ⟨by rfl, ?_⟩) ?_ ?_
                                        rotate_left
                                        · intro w'
                                          go_simp
                                          with_reducible rfl
                                        rotate_left
                                        · simp only [Act.put, List.setIfInBounds_toArray, List.set_cons_zero, List.set_cons_succ, i64_w, i32_w]
                                          rfl
                                        refine last_ (i := 12) (N := none) #[true, true, true, true, true, true, true, true, true, true, true, true, true] rfl rfl (one_of HT_.out (by kernel_rfl)) (by decide) (fun K hK => ?_)
                                        refine skip_ (w1 := ?_) (by rfl) rfl ?_ ?_
                                        rotate_left
                                        · go_simp
                                          rfl
                                        refine hK.out _ _ ?_
                                        clear hK K
                                        refine done_ (done_of HT_.out (by kernel_rfl)) ?_
                                        try go_wp2_with (first | ((with_reducible refine gate_callee (f := 88) rfl ?_); refine goesM_ (some 116) rfl rfl Try.func88 #[.int .i64 a0, .slice (some ad1113) x15_47.length co76] rfl ?_; (with_reducible refine (spec_l01Monic.calls kj47 a0 _ _ x15_47 t1116 _ ?side1 ?side2 A75.out).mono ?_); (case side1 => refine (Kd.R_reads' (e := 2) (base := w.heap.size) (ok := fun k_ => ((w.heap.size ≤ k_) ∧ (some k_ ≠ (u1103001 : Value).ownBlock ∧ some k_ ≠ (.slice (some ⟨go74, 0, none⟩) x1103002_47.length co74 : Value).ownBlock))) (n := x15_47.length) (c := co76) ?_).2.2; exact (by (with_reducible repeat (first | apply Kd.R_alloc | apply Kd.R_drewN | apply Kd.R_drew)); exact (Kd.R_mono (Kd.R_far (p := ⟨go74, (x13_3 : Int).toNat, none⟩) (Kd.R_mono HO_15.out (fun k_ hk => (⟨hk, fun e_ => hk.2.2 (by rw [e_]; rfl)⟩ : _ ∧ k_ ≠ go74))) (fun _ hk => hk.2) (.int .i64 t1114)) (fun _ h_ => h_.1)))); (case side2 => exact (Kd.R_reads' HO_15.out).2.1); rintro e w79 ⟨v1117, rfl, ho0, hb⟩; refine ⟨_, rfl, ?_⟩; have n0_ := Aside0.mk (Kd.V_elder' (by (with_reducible repeat (first | apply Kd.V_alloc | apply Kd.V_drewN | apply Kd.V_drew)); exact (Kd.V_mono (Kd.V_far (p := ⟨go74, (x13_3 : Int).toNat, none⟩) (Kd.V_mono HO_2.out (fun k_ hk => (⟨hk, fun e_ => hk.2.2.2.1 (by rw [e_]; rfl)⟩ : _ ∧ k_ ≠ go74))) (fun _ hk => hk.2) (.int .i64 t1114)) (fun _ h_ => h_.1))) (Kd.R_base ho0) hb); have n1_ := Aside0.mk (Kd.R_elder' (by (with_reducible repeat (first | apply Kd.R_alloc | apply Kd.R_drewN | apply Kd.R_drew)); exact (Kd.R_mono (Kd.R_far (p := ⟨go74, (x13_3 : Int).toNat, none⟩) (Kd.R_mono HO_15.out (fun k_ hk => (⟨hk, fun e_ => hk.2.2 (by rw [e_]; rfl)⟩ : _ ∧ k_ ≠ go74))) (fun _ hk => hk.2) (.int .i64 t1114)) (fun _ h_ => h_.1))) (Kd.R_base ho0) hb); have n2_ := Aside0.mk (Kd.R_elder' (by (with_reducible repeat (first | apply Kd.R_alloc | apply Kd.R_drewN | apply Kd.R_drew)); exact (Kd.R_mono (Kd.R_far (p := ⟨go74, (x13_3 : Int).toNat, none⟩) (Kd.R_mono HO_1103001.out (fun k_ hk => (⟨hk, fun e_ => hk.2.2 (by rw [e_]; rfl)⟩ : _ ∧ k_ ≠ go74))) (fun _ hk => hk.2) (.int .i64 t1114)) (fun _ h_ => h_.1))) (Kd.R_base ho0) hb); have n3_ := Aside0.mk (Kd.R_elder' (rs HQ78) (Kd.R_base ho0) hb); have n4_ := Aside0.mk (Kd.R_lower (Kd.R_new' (Kd.R_new' (Kd.R_new' (Kd.R_newM (M := fun k_ => (w.heap.size ≤ k_)) ho0 (below_size (by repeat (first | (with_reducible first | exact HB.out | apply below_alloc | apply pw_below_drewN | apply below_drew1 | refine below_set ?_ GB74.out | refine below_set ?_ GE1088.out | refine below_set ?_ GE1102.out) | exact HB.out))) (fun k_ h_ => h_)) (Kd.R_lt (by (with_reducible repeat (first | apply Kd.R_alloc | apply Kd.R_drewN | apply Kd.R_drew)); exact (Kd.R_mono (Kd.R_far (p := ⟨go74, (x13_3 : Int).toNat, none⟩) (Kd.R_mono HO_15.out (fun k_ hk => (⟨hk, fun e_ => hk.2.2 (by rw [e_]; rfl)⟩ : _ ∧ k_ ≠ go74))) (fun _ hk => hk.2) (.int .i64 t1114)) (fun _ h_ => h_.1))))) (Kd.R_lt (by (with_reducible repeat (first | apply Kd.R_alloc | apply Kd.R_drewN | apply Kd.R_drew)); exact (Kd.R_mono (Kd.R_far (p := ⟨go74, (x13_3 : Int).toNat, none⟩) (Kd.R_mono HO_1103001.out (fun k_ hk => (⟨hk, fun e_ => hk.2.2 (by rw [e_]; rfl)⟩ : _ ∧ k_ ≠ go74))) (fun _ hk => hk.2) (.int .i64 t1114)) (fun _ h_ => h_.1))))) (Kd.R_lt (rs HQ78))) (below_size (by repeat (first | (with_reducible first | exact HB.out | apply below_alloc | apply pw_below_drewN | apply below_drew1 | refine below_set ?_ GB74.out | refine below_set ?_ GE1088.out | refine below_set ?_ GE1102.out) | exact HB.out)))); have n5_ := Aside0.mk (blk_below (g := gb1088) (o := .cells #[.int .i64 x1089000_3, .slice none 0 0, .slice none 0 0] 52 (0, 0)) (by (with_reducible repeat (first | refine blk_drewN ?_ _ | refine blk_drew ?_ | refine blk_alloc ?_ _)); refine blk_far ?_ (by have h_ := Kd.R_ne HO_1103002.out BK1088.out (by decide); intro e_; exact h_ (by rw [e_]; rfl)) _; (with_reducible repeat (first | refine blk_drewN ?_ _ | refine blk_drew ?_ | refine blk_alloc ?_ _)); exact BK1088.out) hb); have n6_ := Aside0.mk (blk_below (g := gb1102) (o := .cells #[.int .i64 a0, u1103001, .slice (some ⟨go74, 0, none⟩) x1103002_47.length co74] 52 (0, 0)) (by (with_reducible repeat (first | refine blk_drewN ?_ _ | refine blk_drew ?_ | refine blk_alloc ?_ _)); refine blk_far ?_ (by have h_ := Kd.R_ne HO_1103002.out BK1102.out (by decide); intro e_; exact h_ (by rw [e_]; rfl)) _; (with_reducible repeat (first | refine blk_drewN ?_ _ | refine blk_drew ?_ | refine blk_alloc ?_ _)); exact BK1102.out) hb); have n7_ := Aside0.mk (below_step (by repeat (first | (with_reducible first | exact HB.out | apply below_alloc | apply pw_below_drewN | apply below_drew1 | refine below_set ?_ GB74.out | refine below_set ?_ GE1088.out | refine below_set ?_ GE1102.out) | exact HB.out)) hb); clear HO_2; clear HO_15; clear HO_1103001; clear HO_1103002; clear BK1088; clear BK1102; clear HB; have HO_2 := n0_; have HO_15 := n1_; have HO_1103001 := n2_; have HO_1103002 := n3_; have HO1118 := n4_; have BK1088 := n5_; have BK1102 := n6_; have HB := n7_; clear n0_ n1_ n2_ n3_ n4_ n5_ n6_ n7_; (try clear hb); (try clear hb2); (try clear hk); (try clear hi); (try clear ho0)))
                                        (try simp only [← hl2_47])
                                        (try subst hji22)
                                        go_roundg kj47
                                        case measure => have := HJ5.out; have := HJ18.out; have := HK3.out; have := HJ47.out; omega
                                        case rel => exact ⟨(x2_47), (t1116), (ji68), (x1089000_3), (x1103001_47), (y1115), (u1103001), (.slice (some ⟨go74, 0, none⟩) x1103002_47.length co74), (by first | rfl | (simp; done) | (simp only [← hji68] <;> (first | rfl | simp)) | (simp [*]; done)), H', ⟨by have := HJ5.out; have := HJ18.out; have := HK3.out; have := HJ47.out; omega⟩, ⟨by (try simp only [hl2_47]); (with_reducible repeat (first | apply Kd.V_alloc | apply Kd.V_drewN | apply Kd.V_drew)); exact Kd.V_mono HO_2.out (fun _ hk => ⟨hk.1.1, ⟨hk.1.2.2.1, ⟨hk.1.2.2.2.1, ⟨hk.1.2.2.2.2.1, hk.1.2.2.2.2.2⟩⟩⟩⟩)⟩, ⟨Kd.V_mono (Kd.R_V (by (try simp only [hl2_47]); (with_reducible repeat (first | apply Kd.R_alloc | apply Kd.R_drewN | apply Kd.R_drew)); exact Kd.R_mono (ok' := fun k_ => (w.heap.size ≤ k_) ∧ some k_ ≠ Value.ownBlock _ ∧ some k_ ≠ Value.ownBlock _ ∧ k_ ≠ _ ∧ k_ ≠ _) (Kd.R_types (Kd.R_types HO1118.out BK1088.out (by decide)) BK1102.out (by decide)) (fun _ hk => ⟨hk.1.1.1.1.1.1, ⟨hk.1.1.1.2, ⟨hk.1.1.2, ⟨hk.1.2, hk.2⟩⟩⟩⟩))) (fun k_ hk => by first | exact ⟨(.inr (hk.1)), hk.2⟩ | exact (.inr (hk)))⟩, ⟨by (try simp only [hl2_47]); (with_reducible repeat (first | apply Kd.R_alloc | apply Kd.R_drewN | apply Kd.R_drew)); exact Kd.R_mono HO_1103001.out (fun _ hk => ⟨hk.1.1, hk.1.2.2⟩)⟩, ⟨by (try simp only [hl2_47]); (with_reducible repeat (first | apply Kd.R_alloc | apply Kd.R_drewN | apply Kd.R_drew)); exact Kd.R_mono HO_1103002.out (fun _ hk => ⟨hk.1.1, hk.1.2.2⟩)⟩, ⟨by (try simp only [hl2_47]); (with_reducible repeat (first | refine blk_drewN ?_ _ | refine blk_drew ?_ | refine blk_alloc ?_ _)); exact BK1088.out⟩, ⟨by (try simp only [hl2_47]); (with_reducible repeat (first | refine blk_drewN ?_ _ | refine blk_drew ?_ | refine blk_alloc ?_ _)); exact BK1102.out⟩, ⟨by repeat (first | (with_reducible first | exact HB.out | apply below_alloc | apply pw_below_drewN | apply below_drew1 | refine below_set ?_ GE1088.out | refine below_set ?_ GE1102.out) | exact HB.out)⟩⟩
                                      · rw [if_neg c73] at H
                                        exact absurd H (by simp)
                                    · rw [if_neg c72] at H
                                      exact absurd H (by simp)
                                  · rw [if_neg c70] at H
                                    exact absurd H (by simp)
                                · rw [if_neg c69] at H
                                  exact absurd H (by simp)
                              · rw [if_neg c67] at H
                                have c67b0 : ((x15_47.length : Int) == x13_3) = false := beq_eq_false_iff_ne.mpr c67
                                have c67b1 : ((x15_47.length : Int) != x13_3) = true := bne_iff_ne.mpr c67
                                simp only [Option.some.injEq, Prod.mk.injEq] at H
                                obtain ⟨rfl, rfl, rfl, rfl⟩ := H
                                obtain ⟨Ao80, co80, eo80⟩ := Kd.R_slice HO_15.out
                                subst eo80
                                have hnb81 := NB1088_1102.out
                                have hnc81 := NB1102_1088.out
                                have hcz82_0 : wc.cell? ⟨gb1088, 0, none⟩ = some (.int .i64 x1089000_3) := (blk_cell BK1088.out 0).trans rfl
                                have hcz82_1 : wc.cell? ⟨gb1088, 1, none⟩ = some (.slice none 0 0) := (blk_cell BK1088.out 1).trans rfl
                                have hcz82_2 : wc.cell? ⟨gb1088, 2, none⟩ = some (.slice none 0 0) := (blk_cell BK1088.out 2).trans rfl
                                have hfz82_0 := blk_frozen BK1088.out 0
                                have hfz82_1 := blk_frozen BK1088.out 1
                                have hfz82_2 := blk_frozen BK1088.out 2
                                go_wp2
                                refine bodyPost_ret (results_ct rfl _ _ gb1088 52 #[.int .i64 0, .slice none 0 0, .slice none 0 0] (0, 0) _ rfl (by (with_reducible repeat (first | refine blk_drewN ?_ _ | refine blk_drew ?_ | refine blk_alloc ?_ _)); refine blk_put (cs := #[.int .i64 0, .slice none 0 0, .slice none 0 0]) ?_ 2 _ rfl; (with_reducible repeat (first | refine blk_drewN ?_ _ | refine blk_drew ?_ | refine blk_alloc ?_ _)); refine blk_put (cs := #[.int .i64 0, .slice none 0 0, .slice none 0 0]) ?_ 1 _ rfl; (with_reducible repeat (first | refine blk_drewN ?_ _ | refine blk_drew ?_ | refine blk_alloc ?_ _)); refine blk_put (cs := #[.int .i64 x1089000_3, .slice none 0 0, .slice none 0 0]) ?_ 0 _ rfl; (with_reducible repeat (first | refine blk_drewN ?_ _ | refine blk_drew ?_ | refine blk_alloc ?_ _)); exact BK1088.out) Try.underlying52 rfl (by kernel_rfl)) rfl ?_
                                exact ⟨_, _, by first | rfl | (simp [errW_none, errW_some] <;> rfl) | (simp only [← hji22]; first | rfl | (simp [errW_none, errW_some] <;> rfl)) | (simp [*, errW_none, errW_some] <;> rfl), by first | exact Kd.R_nil _ _ _ _ _ | exact Kd.N_nil _ _ _ _ _ | exact Kd.V_nil _ _ _ _ _ | exact Kd.Q_nil _ _ _ _ _ | exact Kd.S_nil _ _ _ _ _, by first | exact Kd.R_nil _ _ _ _ _ | exact Kd.N_nil _ _ _ _ _ | exact Kd.V_nil _ _ _ _ _ | exact Kd.Q_nil _ _ _ _ _ | exact Kd.S_nil _ _ _ _ _, by repeat (first | (with_reducible first | exact HB.out | apply below_alloc | apply pw_below_drewN | apply below_drew1 | refine below_set ?_ GE1088.out | refine below_set ?_ GE1102.out) | exact HB.out)⟩
                      · rw [if_neg c46] at H
                        have c46b0 : decide (0 ≤ x13_3) = false := decide_eq_false c46
                        clear c46
                        simp only [Option.some.injEq, Prod.mk.injEq] at H
                        obtain ⟨rfl, rfl, rfl, rfl⟩ := H
                        have hnb83 := NB1102_1088.out
                        have hnc83 := NB1088_1102.out
                        have hcz84_0 : wr.cell? ⟨gb1102, 0, none⟩ = some (.int .i64 a0) := (blk_cell BK1102.out 0).trans rfl
                        have hcz84_1 : wr.cell? ⟨gb1102, 1, none⟩ = some (u1103001) := (blk_cell BK1102.out 1).trans rfl
                        have hcz84_2 : wr.cell? ⟨gb1102, 2, none⟩ = some (u1103002) := (blk_cell BK1102.out 2).trans rfl
                        have hfz84_0 := blk_frozen BK1102.out 0
                        have hfz84_1 := blk_frozen BK1102.out 1
                        have hfz84_2 := blk_frozen BK1102.out 2
                        have hcz85_0 : wr.cell? ⟨gb1088, 0, none⟩ = some (.int .i64 x1089000_3) := (blk_cell BK1088.out 0).trans rfl
                        have hcz85_1 : wr.cell? ⟨gb1088, 1, none⟩ = some (.slice none 0 0) := (blk_cell BK1088.out 1).trans rfl
                        have hcz85_2 : wr.cell? ⟨gb1088, 2, none⟩ = some (.slice none 0 0) := (blk_cell BK1088.out 2).trans rfl
                        have hfz85_0 := blk_frozen BK1088.out 0
                        have hfz85_1 := blk_frozen BK1088.out 1
                        have hfz85_2 := blk_frozen BK1088.out 2
                        obtain ⟨Ao86, co86, eo86⟩ := Kd.R_slice HO_1103001.out
                        subst eo86
                        obtain ⟨Ao87, co87, eo87⟩ := Kd.R_slice HO_1103002.out
                        subst eo87
                        go_wp2
                        refine bodyPost_ret (results_ct rfl _ _ gb1088 52 #[.int .i64 a0, .slice Ao86 x1103001_3.length co86, .slice Ao87 x1103002_3.length co87] (0, 0) _ rfl (by (with_reducible repeat (first | refine blk_drewN ?_ _ | refine blk_drew ?_ | refine blk_alloc ?_ _)); refine blk_put (cs := #[.int .i64 a0, .slice Ao86 x1103001_3.length co86, .slice none 0 0]) ?_ 2 _ rfl; (with_reducible repeat (first | refine blk_drewN ?_ _ | refine blk_drew ?_ | refine blk_alloc ?_ _)); refine blk_put (cs := #[.int .i64 a0, .slice none 0 0, .slice none 0 0]) ?_ 1 _ rfl; (with_reducible repeat (first | refine blk_drewN ?_ _ | refine blk_drew ?_ | refine blk_alloc ?_ _)); refine blk_put (cs := #[.int .i64 x1089000_3, .slice none 0 0, .slice none 0 0]) ?_ 0 _ rfl; (with_reducible repeat (first | refine blk_drewN ?_ _ | refine blk_drew ?_ | refine blk_alloc ?_ _)); exact BK1088.out) Try.underlying52 rfl (by kernel_rfl)) rfl ?_
                        exact ⟨_, _, by first | rfl | (simp [errW_none, errW_some] <;> rfl) | (simp only [← hji22]; first | rfl | (simp [errW_none, errW_some] <;> rfl)) | (simp [*, errW_none, errW_some] <;> rfl), by (with_reducible repeat (first | apply Kd.R_alloc | apply Kd.R_drewN | apply Kd.R_drew)); exact Kd.R_mono (Kd.R_far (p := ⟨gb1088, 2, none⟩) (Kd.R_far (p := ⟨gb1088, 1, none⟩) (Kd.R_far (p := ⟨gb1088, 0, none⟩) (Kd.R_types HO_1103001.out BK1088.out (by decide)) (fun _ hk => hk.2) (.int .i64 a0)) (fun _ hk => hk.2) (.slice Ao86 x1103001_3.length co86)) (fun _ hk => hk.2) (.slice Ao87 x1103002_3.length co87)) (fun _ hk => ⟨hk.1.1, hk.1.2⟩), by (with_reducible repeat (first | apply Kd.R_alloc | apply Kd.R_drewN | apply Kd.R_drew)); exact Kd.R_mono (Kd.R_far (p := ⟨gb1088, 2, none⟩) (Kd.R_far (p := ⟨gb1088, 1, none⟩) (Kd.R_far (p := ⟨gb1088, 0, none⟩) (Kd.R_types HO_1103002.out BK1088.out (by decide)) (fun _ hk => hk.2) (.int .i64 a0)) (fun _ hk => hk.2) (.slice Ao86 x1103001_3.length co86)) (fun _ hk => hk.2) (.slice Ao87 x1103002_3.length co87)) (fun _ hk => ⟨hk.1.1, hk.1.2⟩), by repeat (first | (with_reducible first | exact HB.out | apply below_alloc | apply pw_below_drewN | apply below_drew1 | refine below_set ?_ GE1088.out | refine below_set ?_ GE1102.out) | exact HB.out)⟩
                · rw [if_neg c25] at H
                  exact absurd H (by simp)
              · rw [if_neg c24] at H
                exact absurd H (by simp)
            · rw [if_neg c23] at H
              exact absurd H (by simp)
          · rw [if_neg c21] at H
            have c21b0 : (x10_18 == 0) = false := beq_eq_false_iff_ne.mpr c21
            have c21b1 : (x10_18 != 0) = true := bne_iff_ne.mpr c21
            simp only [Option.some.injEq, Prod.mk.injEq] at H
            obtain ⟨rfl, rfl, rfl, rfl⟩ := H
            have hcz88_0 : wc.cell? ⟨gb1088, 0, none⟩ = some (.int .i64 0) := (blk_cell BK1088.out 0).trans rfl
            have hcz88_1 : wc.cell? ⟨gb1088, 1, none⟩ = some (.slice none 0 0) := (blk_cell BK1088.out 1).trans rfl
            have hcz88_2 : wc.cell? ⟨gb1088, 2, none⟩ = some (.slice none 0 0) := (blk_cell BK1088.out 2).trans rfl
            have hfz88_0 := blk_frozen BK1088.out 0
            have hfz88_1 := blk_frozen BK1088.out 1
            have hfz88_2 := blk_frozen BK1088.out 2
            go_wp2
            refine bodyPost_ret (results_ct rfl _ _ gb1088 52 #[.int .i64 0, .slice none 0 0, .slice none 0 0] (0, 0) _ rfl (by (with_reducible repeat (first | refine blk_drewN ?_ _ | refine blk_drew ?_ | refine blk_alloc ?_ _)); refine blk_put (cs := #[.int .i64 0, .slice none 0 0, .slice none 0 0]) ?_ 2 _ rfl; (with_reducible repeat (first | refine blk_drewN ?_ _ | refine blk_drew ?_ | refine blk_alloc ?_ _)); refine blk_put (cs := #[.int .i64 0, .slice none 0 0, .slice none 0 0]) ?_ 1 _ rfl; (with_reducible repeat (first | refine blk_drewN ?_ _ | refine blk_drew ?_ | refine blk_alloc ?_ _)); refine blk_put (cs := #[.int .i64 0, .slice none 0 0, .slice none 0 0]) ?_ 0 _ rfl; (with_reducible repeat (first | refine blk_drewN ?_ _ | refine blk_drew ?_ | refine blk_alloc ?_ _)); exact BK1088.out) Try.underlying52 rfl (by kernel_rfl)) rfl ?_
            exact ⟨_, _, by first | rfl | (simp [errW_none, errW_some] <;> rfl) | (simp [*, errW_none, errW_some] <;> rfl), by first | exact Kd.R_nil _ _ _ _ _ | exact Kd.N_nil _ _ _ _ _ | exact Kd.V_nil _ _ _ _ _ | exact Kd.Q_nil _ _ _ _ _ | exact Kd.S_nil _ _ _ _ _, by first | exact Kd.R_nil _ _ _ _ _ | exact Kd.N_nil _ _ _ _ _ | exact Kd.V_nil _ _ _ _ _ | exact Kd.Q_nil _ _ _ _ _ | exact Kd.S_nil _ _ _ _ _, by repeat (first | (with_reducible first | exact HB.out | apply below_alloc | apply pw_below_drewN | apply below_drew1 | refine below_set ?_ GE1088.out) | exact HB.out)⟩
end Go.Proofs.Ytiffnigjblbakaa.H
