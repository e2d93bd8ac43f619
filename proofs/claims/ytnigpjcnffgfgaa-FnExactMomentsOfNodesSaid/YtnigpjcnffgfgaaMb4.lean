/- Joined texts of a claim: the printed functions and what is proved of them. -/
import Derived.Test.YtnigpjcnffgfgaaYHx0
import Derived.Test.YtnigpjcnffgfgaaMab3
namespace Go.Proofs.Ytnigpjcnffgfgaa.H
open Go.RowKit Go.Proofs.YtnigpjcnffgfgaaW.PrintWords Go.Proofs.YtnigpjcnffgfgaaW.PrintLast Go.Proofs.YtnigpjcnffgfgaaW.PrintMore
attribute [local go_sem] max2_int min2_int max_two min_two max_three min_three max_four min_four   -- for this text's walks alone
set_option linter.unusedVariables false
set_option linter.unusedSimpArgs false
mutual
def spec_l02Of.l0 : Nat → Int → List Int → Int → List Int → Int → Int → List Int → Option (Int × List Int)
 | 0, _, _, _, _, _, _, _ => none
 | k + 1, x0, x1, x3, x10, x11, x441000, x441001 => if x11 < x3 then (spec_l02Of.l1 k x0 x1 x3 x10 x11 0 0 x441000 x441001) else (some (x441000, x441001))
def spec_l02Of.l1 : Nat → Int → List Int → Int → List Int → Int → Int → Int → Int → List Int → Option (Int × List Int)
 | 0, _, _, _, _, _, _, _, _, _ => none
 | k + 1, x0, x1, x3, x10, x11, x12, x13, x441000, x441001 => if x13 < (x1.length : Int) then (if 0 ≤ x13 then (if x13 < (x10.length : Int) then (if x0 = 0 then (none) else (spec_l02Of.l1 k x0 x1 x3 (x10.set (x13 : Int).toNat (Int.tmod (wrap64 ((rd x10 x13) * (rd x1 x13))) x0)) x11 (Int.tmod (wrap64 (x12 + (rd x10 x13))) x0) (wrap64 (x13 + 1)) x441000 x441001)) else (none)) else (none)) else (if x441001.length < 17592186044416 then (spec_l02Of.l0 k x0 x1 x3 x10 (wrap64 (x11 + 1)) x441000 (x441001 ++ [x12])) else (none))
end
def spec_l02Of.f (k : Nat) (a0 : Int) (l1 : List Int) (l2 : List Int) (a3 : Int) : Option (Int × List Int) := (spec_l01Own.f l2).bind fun t437 => (spec_l02Of.l0 k a0 l1 a3 t437 0 a0 (([] : List Int)))
def spec_l02Of.T10 : Bool × List (List Nat × List Nat) := (true, [([], []), ([], []), ([], []), ([], []), ([2, 3], [2, 3]), ([4], [4]), ([], []), ([], []), ([6, 7], [6, 7]), ([8], [8]), ([5, 9], [5, 9]), ([], []), ([10, 11], [10, 11]), ([0, 1, 0, 1, 2, 3, 4, 5, 6, 7, 8, 9, 10, 11, 12], [0, 1]), ([13, 12, 0, 1, 2, 3, 4, 5, 6, 7, 8, 9, 10, 11, 12], [12, 13])])
def spec_l02Of.B10 : List Nat := [0, 0, 0, 0, 12, 28, 0, 0, 192, 448, 1020, 0, 4092, 8191, 16383]
theorem spec_l02Of.tab10 : rtab .any (opsOf Try.f23 10) = spec_l02Of.T10 := by kernel_rfl
theorem spec_l02Of.bits10 : waitsOk spec_l02Of.T10.2 spec_l02Of.B10 = true := by kernel_rfl
set_option maxHeartbeats 8000000 in
set_option maxRecDepth 100000 in
theorem spec_l02Of.calls (k : Nat) (a0 : Int) (A1 : Option Addr) (c1 : Nat) (l1 : List Int) (A2 : Option Addr) (c2 : Nat) (l2 : List Int) (a3 : Int) (r1 : Int) (r2 : List Int) (w : World) (hr1 : Kd.C (Kd.int .i64) w A1 l1.length l1) (hc1 : l1.length ≤ c1) (hr2 : Kd.C (Kd.int .i64) w A2 l2.length l2) (hc2 : l2.length ≤ c2) (h : spec_l02Of.f k a0 l1 l2 a3 = some (r1, r2)) :
  Calls Try.prog 23 #[.int .i64 a0, .slice A1 l1.length c1, .slice A2 l2.length c2, .int .i64 a3] w fun e w' => ∃ v1_ : Value, e = .returned (.agg #[.int .i64 r1, v1_]) ∧ Kd.R (Kd.int .i64) 2 w' w.heap.size (fun _ => True) v1_ r2 ∧ Below w.heap.size w w' := by
 have hu30 := Try.underlying30
 have HR1 := as0 hr1
 have HC1 := as0 hc1
 clear hr1 hc1
 have HR2 := as0 hr2
 have HC2 := as0 hc2
 clear hr2 hc2
 have HB := as0 (Below.refl w.heap.size w)
 have H : ((spec_l01Own.f l2).bind fun t437 => (spec_l02Of.l0 k a0 l1 a3 t437 0 a0 (([] : List Int)))) = some (r1, r2) := h
 clear h
 obtain ⟨y434, hy434⟩ : ∃ y_ : List Int, y_ = (([] : List Int)) := ⟨_, rfl⟩
 replace H : ((spec_l01Own.f l2).bind fun t437 => (spec_l02Of.l0 k a0 l1 a3 t437 0 a0 y434)) = some (r1, r2) := by first | (rw [hy434]; with_reducible exact H) | (have H2_ := (Option.bind_some _ _).symm.trans H; rw [hy434]; with_reducible exact H2_) | (have H2_ := (Option.bind_some _ _).symm.trans H; with_reducible exact H2_) | with_reducible exact H | (rw [hy434]; exact H) | exact H
 have Ny434 := as0 hy434
 clear hy434
 replace H := Option.bind_eq_some_iff.mp H
 obtain ⟨t437, A50, H⟩ := H
 have A5 := as0 A50
 clear A50
 have H' := as0 H
 clear H
 go_enter Try.func23, Try.ntmps23
 go_wp2_with (first | ((with_reducible refine gate_dst (N := 8) rfl ?_); refine box_event ?hg (N := 8) ?hd (cs := #[.int .i64 0, .slice none 0 0]) (t := 30) ?hr ?_; (case hd => rfl); (case hg => rfl); (case hr => first | (go_simp; done) | (go_simp; rfl)); intro gb433 hg w6 hbox hb; have n0_ := as0 (below_step (bs HB) hb); have n1_ := as0 (hbox); have n2_ := as0 ((by rw [hg]; exact (below_size (bs HB)) : w.heap.size ≤ gb433)); have n3_ := as0 ((by rw [hg]; exact (below_size (bs HB)) : w.heap.size ≤ gb433)); clear HB; have HB := n0_; have BK433 := n1_; have GW433 := n2_; have GE433 := n3_; clear n0_ n1_ n2_ n3_; clear hb hbox hg) | ((with_reducible refine gate_dst (N := 15) rfl ?_); refine Kd.R_lit (Kd.int .i64) _ 2 ?hg (N := 15) ?hd (xs := ([] : List Int)) (inner := []) (ok := fun _ => True) (okp := fun _ => True) ?hr ?hp (fun _ hk => hk) trivial (Below.refl _ _) (Nat.le_refl _) (by simp) ?_; (case hd => rfl); (case hg => rfl); (case hr => first | (go_simp; done) | (go_simp; rfl)); (case hp => exact (Reps.none _ _)); intro v435 w7 ho8 hb hg_ hnew_; clear hg_ hnew_; (first | rw [← Ny434.out] at ho8 | (simp only [Int.reduceToNat] at ho8; rw [← Ny434.out] at ho8)); have n0_ := as0 (Kd.R_lower ho8 (below_size (by repeat (first | (with_reducible first | exact HB.out | apply below_alloc | apply pw_below_drewN | apply below_drew1 | refine below_set ?_ GE433.out) | exact HB.out)))); have n1_ := as0 (blk_below (g := gb433) (o := .cells #[.int .i64 0, .slice none 0 0] 30 (0, 0)) (by (with_reducible repeat (first | refine blk_drewN ?_ _ | refine blk_drew ?_ | refine blk_alloc ?_ _)); exact BK433.out) hb); have n2_ := as0 (below_step (by repeat (first | (with_reducible first | exact HB.out | apply below_alloc | apply pw_below_drewN | apply below_drew1 | refine below_set ?_ GE433.out) | exact HB.out)) hb); clear BK433; clear HB; have HO436 := n0_; have BK433 := n1_; have HB := n2_; clear n0_ n1_ n2_; clear hb ho8; obtain ⟨Ao9, co9, eo9⟩ := Kd.R_slice HO436.out; subst eo9) | ((with_reducible refine gate_callee (f := 41) rfl ?_); refine goesM_ (some 18) rfl rfl Try.func41 #[.slice A2 l2.length c2] rfl ?_; (with_reducible refine (spec_l01Own.calls _ _ l2 t437 _ ?side1 ?side2 A5.out).mono ?_); (case side1 => exact cs ((Kd.C_below HR2.out HB.out))); (case side2 => exact HC2.out); rintro e w10 ⟨v438, rfl, ho0, hb⟩; refine ⟨_, rfl, ?_⟩; have n0_ := as0 (Kd.R_elder' (rs HO436) (Kd.R_base ho0) hb); have n1_ := as0 (Kd.R_lower (Kd.R_new' ho0 (Kd.R_lt (rs HO436))) (below_size (by repeat (first | (with_reducible first | exact HB.out | apply below_alloc | apply pw_below_drewN | apply below_drew1 | refine below_set ?_ GE433.out) | exact HB.out)))); have n2_ := as0 (blk_below (g := gb433) (o := .cells #[.int .i64 0, .slice none 0 0] 30 (0, 0)) (by (with_reducible repeat (first | refine blk_drewN ?_ _ | refine blk_drew ?_ | refine blk_alloc ?_ _)); exact BK433.out) hb); have n3_ := as0 (below_step (by repeat (first | (with_reducible first | exact HB.out | apply below_alloc | apply pw_below_drewN | apply below_drew1 | refine below_set ?_ GE433.out) | exact HB.out)) hb); clear HO436; clear BK433; clear HB; have HO436 := n0_; have HO439 := n1_; have BK433 := n2_; have HB := n3_; clear n0_ n1_ n2_ n3_; (try clear hb); (try clear hb2); (try clear hk); (try clear hi); (try clear ho0)) | ((with_reducible refine gate_dst (N := 9) rfl ?_); refine box_event ?hg (N := 9) ?hd (cs := #[.int .i64 0, .slice none 0 0]) (t := 30) ?hr ?_; (case hd => rfl); (case hg => rfl); (case hr => first | (go_simp; done) | (go_simp; rfl)); intro gb440 hg w11 hbox hb; have n0_ := as0 (Kd.R_below (rs HO436) hb); have n1_ := as0 (Kd.R_below (rs HO439) hb); have n2_ := as0 (blk_below (g := gb433) (o := .cells #[.int .i64 0, .slice none 0 0] 30 (0, 0)) (by (with_reducible repeat (first | refine blk_drewN ?_ _ | refine blk_drew ?_ | refine blk_alloc ?_ _)); exact BK433.out) hb); have n3_ := as0 (below_step (by repeat (first | (with_reducible first | exact HB.out | apply below_alloc | apply pw_below_drewN | apply below_drew1 | refine below_set ?_ GE433.out) | exact HB.out)) hb); have n4_ := as0 (hbox); have n5_ := as0 ((by rw [hg]; exact (below_size (by repeat (first | (with_reducible first | exact HB.out | apply below_alloc | apply pw_below_drewN | apply below_drew1 | refine below_set ?_ GE433.out) | exact HB.out))) : w.heap.size ≤ gb440)); have n6_ := as0 ((by rw [hg]; exact (below_size (by repeat (first | (with_reducible first | exact HB.out | apply below_alloc | apply pw_below_drewN | apply below_drew1 | refine below_set ?_ GE433.out) | exact HB.out))) : w.heap.size ≤ gb440)); have n7_ := as0 ((by rw [hg]; exact Nat.ne_of_lt (blk_lt (g := gb433) (o := .cells #[.int .i64 0, .slice none 0 0] 30 (0, 0)) (by (with_reducible repeat (first | refine blk_drewN ?_ _ | refine blk_drew ?_ | refine blk_alloc ?_ _)); exact BK433.out)) : gb433 ≠ gb440)); have n8_ := as0 ((by rw [hg]; exact Nat.ne_of_gt (blk_lt (g := gb433) (o := .cells #[.int .i64 0, .slice none 0 0] 30 (0, 0)) (by (with_reducible repeat (first | refine blk_drewN ?_ _ | refine blk_drew ?_ | refine blk_alloc ?_ _)); exact BK433.out)) : gb440 ≠ gb433)); clear HO436; clear HO439; clear BK433; clear HB; have HO436 := n0_; have HO439 := n1_; have BK433 := n2_; have HB := n3_; have BK440 := n4_; have GW440 := n5_; have GE440 := n6_; have NB433_440 := n7_; have NB440_433 := n8_; clear n0_ n1_ n2_ n3_ n4_ n5_ n6_ n7_ n8_; clear hb hbox hg; have hnb12 := NB440_433.out; have hnc12 := NB433_440.out; have hcz13_0 : w11.cell? ⟨gb440, 0, none⟩ = some (.int .i64 0) := (blk_cell BK440.out 0).trans rfl; have hcz13_1 : w11.cell? ⟨gb440, 1, none⟩ = some (.slice none 0 0) := (blk_cell BK440.out 1).trans rfl; have hfz13_0 := blk_frozen BK440.out 0; have hfz13_1 := blk_frozen BK440.out 1))
 go_loopg [11] k (fun kq v11 w' => ∃ (x10_1 : List Int) (x11_1 : Int) (x441001_1 : List Int) (u441001 : Value), v11 = .int .i64 x11_1 ∧ Aside0 (spec_l02Of.l0 kq a0 l1 a3 x10_1 x11_1 a0 x441001_1 = some (r1, r2)) ∧ Aside0 (kq ≤ k) ∧ Aside0 (Kd.R (Kd.int .i64) 2 w' w.heap.size (fun k_ => some k_ ≠ (u441001 : Value).ownBlock) v438 x10_1) ∧ Aside0 (Kd.R (Kd.int .i64) 2 w' w.heap.size (fun k_ => some k_ ≠ (v438 : Value).ownBlock) u441001 x441001_1) ∧ Aside0 (w'.heap[gb433]? = some (.cells #[.int .i64 0, (.slice none 0 0)] 30 (0, 0))) ∧ Aside0 (w'.heap[gb440]? = some (.cells #[.int .i64 a0, u441001] 30 (0, 0))) ∧ Aside0 (Below w.heap.size w w'))
 case atStart => exact ⟨(t437), (0), (y434), (.slice Ao9 y434.length co9), ea_, H', ⟨Nat.le_refl _⟩, ⟨by (with_reducible repeat (first | apply Kd.R_alloc | apply Kd.R_drewN | apply Kd.R_drew)); exact Kd.R_mono (Kd.R_far (p := ⟨gb440, 1, none⟩) (Kd.R_far (p := ⟨gb440, 0, none⟩) (Kd.R_types HO439.out BK440.out (by decide)) (fun _ hk => hk.2) (.int .i64 a0)) (fun _ hk => hk.2) (.slice Ao9 y434.length co9)) (fun _ hk => hk.1.2)⟩, ⟨by (with_reducible repeat (first | apply Kd.R_alloc | apply Kd.R_drewN | apply Kd.R_drew)); exact Kd.R_mono (Kd.R_far (p := ⟨gb440, 1, none⟩) (Kd.R_far (p := ⟨gb440, 0, none⟩) (Kd.R_types HO436.out BK440.out (by decide)) (fun _ hk => hk.2) (.int .i64 a0)) (fun _ hk => hk.2) (.slice Ao9 y434.length co9)) (fun _ hk => hk.1.2)⟩, ⟨by (with_reducible repeat (first | refine blk_drewN ?_ _ | refine blk_drew ?_ | refine blk_alloc ?_ _)); refine blk_far ?_ NB433_440.out _; (with_reducible repeat (first | refine blk_drewN ?_ _ | refine blk_drew ?_ | refine blk_alloc ?_ _)); refine blk_far ?_ NB433_440.out _; (with_reducible repeat (first | refine blk_drewN ?_ _ | refine blk_drew ?_ | refine blk_alloc ?_ _)); exact BK433.out⟩, ⟨by (with_reducible repeat (first | refine blk_drewN ?_ _ | refine blk_drew ?_ | refine blk_alloc ?_ _)); refine blk_put (cs := #[.int .i64 a0, .slice none 0 0]) ?_ 1 _ rfl; (with_reducible repeat (first | refine blk_drewN ?_ _ | refine blk_drew ?_ | refine blk_alloc ?_ _)); refine blk_put (cs := #[.int .i64 0, .slice none 0 0]) ?_ 0 _ rfl; (with_reducible repeat (first | refine blk_drewN ?_ _ | refine blk_drew ?_ | refine blk_alloc ?_ _)); exact BK440.out⟩, ⟨by repeat (first | (with_reducible first | exact HB.out | apply below_alloc | apply pw_below_drewN | apply below_drew1 | refine below_set ?_ GE433.out | refine below_set ?_ GE440.out) | exact HB.out)⟩⟩
 case round =>
  clear H'
  try clear c1
  try clear c2
  try clear p2
  try clear c4
  try clear c12
  try clear hcz13_0
  try clear hcz13_1
  try clear hfz13_0
  try clear hfz13_1
  obtain ⟨x10_1, x11_1, x441001_1, u441001, rfl, HA, HK1, HO_10, HO_441001, BK433, BK440, HB⟩ := hrel
  cases gk with
  | zero => exact absurd HA.out (by simp [spec_l02Of.l0])
  | succ k1 =>
   have H := HA.out
   clear HA
   simp only [spec_l02Of.l0] at H
   by_cases c14 : x11_1 < a3
   ·
    rw [if_pos c14] at H
    have c14b0 : decide (x11_1 < a3) = true := decide_eq_true c14
    clear c14
    have H' := as0 H
    clear H
    go_wp2
    go_loopg [12, 13] k1 (fun kq v12 v13 w' => ∃ (x10_2 : List Int) (x12_2 : Int) (x13_2 : Int), v12 = .int .i64 x12_2 ∧ v13 = .int .i64 x13_2 ∧ Aside0 (spec_l02Of.l1 kq a0 l1 a3 x10_2 x11_1 x12_2 x13_2 a0 x441001_1 = some (r1, r2)) ∧ Aside0 (kq ≤ k1) ∧ Aside0 (Kd.R (Kd.int .i64) 2 w' w.heap.size (fun k_ => some k_ ≠ (u441001 : Value).ownBlock) v438 x10_2) ∧ Aside0 (Kd.R (Kd.int .i64) 2 w' w.heap.size (fun k_ => some k_ ≠ (v438 : Value).ownBlock) u441001 x441001_1) ∧ Aside0 (w'.heap[gb433]? = some (.cells #[.int .i64 0, (.slice none 0 0)] 30 (0, 0))) ∧ Aside0 (w'.heap[gb440]? = some (.cells #[.int .i64 a0, u441001] 30 (0, 0))) ∧ Aside0 (Below w.heap.size w w'))
    case atStart => exact ⟨(x10_1), (0), (0), ea_, ea_, H', ⟨Nat.le_refl _⟩, ⟨rs HO_10⟩, ⟨rs HO_441001⟩, ⟨by (with_reducible repeat (first | refine blk_drewN ?_ _ | refine blk_drew ?_ | refine blk_alloc ?_ _)); exact BK433.out⟩, ⟨by (with_reducible repeat (first | refine blk_drewN ?_ _ | refine blk_drew ?_ | refine blk_alloc ?_ _)); exact BK440.out⟩, ⟨by repeat (first | (with_reducible first | exact HB.out | apply below_alloc | apply pw_below_drewN | apply below_drew1 | refine below_set ?_ GE433.out | refine below_set ?_ GE440.out) | exact HB.out)⟩⟩
    case round =>
     clear H'
     try clear c1
     try clear c2
     try clear p2
     try clear c4
     try clear c12
     try clear c14
     try clear c14b0
     try clear hcz13_0
     try clear hcz13_1
     try clear hfz13_0
     try clear hfz13_1
     try clear p2
     obtain ⟨x10_2, x12_2, x13_2, rfl, rfl, HA, HK2, HO_10, HO_441001, BK433, BK440, HB⟩ := hrel
     cases gk with
     | zero => exact absurd HA.out (by simp [spec_l02Of.l1])
     | succ k2 =>
      have H := HA.out
      clear HA
      simp only [spec_l02Of.l1] at H
      by_cases c15 : x13_2 < (l1.length : Int)
      ·
       rw [if_pos c15] at H
       have c15b0 : decide (x13_2 < (l1.length : Int)) = true := decide_eq_true c15
       clear c15
       by_cases c16 : 0 ≤ x13_2
       ·
        rw [if_pos c16] at H
        have c16b0 : decide (0 ≤ x13_2) = true := decide_eq_true c16
        clear c16
        by_cases c17 : x13_2 < (x10_2.length : Int)
        ·
         rw [if_pos c17] at H
         have c17b0 : decide (x13_2 < (x10_2.length : Int)) = true := decide_eq_true c17
         clear c17
         by_cases c18 : a0 = 0
         ·
          rw [if_pos c18] at H
          exact absurd H (by simp)
         ·
          rw [if_neg c18] at H
          have c18b0 : (a0 == 0) = false := beq_eq_false_iff_ne.mpr c18
          have c18b1 : (a0 != 0) = true := bne_iff_ne.mpr c18
          obtain ⟨y444, hy444⟩ : ∃ y_ : List Int, y_ = (x10_2.set (x13_2 : Int).toNat (Int.tmod (wrap64 ((rd x10_2 x13_2) * (rd l1 x13_2))) a0)) := ⟨_, rfl⟩
          replace H : (spec_l02Of.l1 k2 a0 l1 a3 y444 x11_1 (Int.tmod (wrap64 (x12_2 + (rd x10_2 x13_2))) a0) (wrap64 (x13_2 + 1)) a0 x441001_1) = some (r1, r2) := by first | (rw [hy444]; with_reducible exact H) | (have H2_ := (Option.bind_some _ _).symm.trans H; rw [hy444]; with_reducible exact H2_) | (have H2_ := (Option.bind_some _ _).symm.trans H; with_reducible exact H2_) | with_reducible exact H | (rw [hy444]; exact H) | exact H
          have Ny444 := as0 hy444
          clear hy444
          have H' := as0 H
          clear H
          obtain ⟨Ao20, co20, eo20⟩ := Kd.R_slice HO_10.out
          subst eo20
          have p441 : 0 ≤ (x13_2 : Int) := oa_
          have q441 : x13_2 < (x10_2.length : Int) := oa_
          obtain ⟨ad441, e441, hx441_0⟩ := Kd.at_int (Kd.R_reads' HO_10.out).2.2 x13_2 p441 q441
          cases e441
          replace p441 := eq_true p441
          replace q441 := eq_true q441
          try go_wp2
          have n0_ := as0 (Kd.R_drew HO_10.out)
          have n1_ := as0 (Kd.R_drew HO_441001.out)
          have n2_ := as0 (blk_drew BK433.out)
          have n3_ := as0 (blk_drew BK440.out)
          have n4_ := as0 (below_drew1 HB.out)
          clear HO_10
          clear HO_441001
          clear BK433
          clear BK440
          clear HB
          have HO_10 := n0_
          have HO_441001 := n1_
          have BK433 := n2_
          have BK440 := n3_
          have HB := n4_
          clear n0_ n1_ n2_ n3_ n4_
          have p442 : 0 ≤ (x13_2 : Int) := oa_
          have q442 : x13_2 < (x10_2.length : Int) := oa_
          obtain ⟨ad442, e442, hx442_0⟩ := Kd.at_int (Kd.R_reads' HO_10.out).2.2 x13_2 p442 q442
          obtain rfl : ad441 = ad442 := (by injection e442)
          replace p442 := eq_true p442
          replace q442 := eq_true q442
          have p443 : 0 ≤ (x13_2 : Int) := oa_
          have q443 : x13_2 < (l1.length : Int) := oa_
          obtain ⟨ad443, e443, hx443_0⟩ := Kd.at_int HR1.out x13_2 p443 q443
          have hw443_0 := hx443_0
          cases e443
          replace hx443_0 := (HB.out.cell (World.block_lt_of_cell? w _ hx443_0)).trans hx443_0
          replace p443 := eq_true p443
          replace q443 := eq_true q443
          have p19 : 0 ≤ (x13_2 : Int) := oa_
          have q19 : (x13_2 : Int) < ((x10_2.length : Int) : Int) := oa_
          obtain ⟨go19, co19, eo19, gb19, gl19, cl19, HG19⟩ := Kd.R_form HO_10.out (by omega)
          (first | cases eo19 | (injection eo19 with ea_ en_ ec_; (first | subst ea_ | (injection ea_ with ea_; subst ea_)); subst ec_; clear en_))
          have GB19 := as0 gb19
          have GG19 := as0 HG19
          clear gb19 gl19 HG19
          (first | simp only [add_plain] at hx441_0 | skip)
          (first | simp only [add_plain] at hx442_0 | skip)
          obtain ⟨hx19_0, hf19_0⟩ := Kd.R_celln 0 HO_10.out (x13_2 : Int) p19 q19
          replace p19 := eq_true p19
          replace q19 := eq_true q19
          have HP22 := Kd.R_putn HO_10.out (x13_2 : Int) (Int.tmod (wrap64 ((rd x10_2 x13_2) * (rd l1 x13_2))) a0)
          rw [← Ny444.out] at HP22
          have HQ22 := as0 HP22
          clear HP22
          refine start_ (n := 15) (S := fun w' => w'.cell? ⟨go19, (x13_2).toNat, none⟩ = some (.int .i64 (rd x10_2 x13_2)) ∧ w'.cell? (ad443.add (x13_2).toNat) = some (.int .i64 (rd l1 x13_2))) (ds := [14]) #[false, false, false, false, false, false, false, false, false, false, false, false, false, false, false] (by kernel_rfl) rfl rfl ⟨hx442_0, ((HB.out.cell (World.block_lt_of_cell? w _ hw443_0)).trans hw443_0)⟩ (fun hHeld => ?_); refine with_tabW spec_l02Of.tab10 spec_l02Of.bits10 (fun HT_ HW_ => ?_)
          generalize wr.drew = w21 at HO_10 HO_441001 BK433 BK440 HB GG19 HQ22 hf19_0 hx19_0 hx441_0 hx442_0 hx443_0 hHeld ⊢
          refine pm_ HT_ (i := 0) (N := some 38) ?_
          refine pm_ HT_ (i := 1) (N := some 39) ?_
          refine pm_ HT_ (i := 2) (N := some 40) ?_
          refine pm_ HT_ (i := 3) (N := some 41) ?_
          refine pm_ HT_ (i := 4) (N := some 42) ?_
          refine pm_ HT_ (i := 6) (N := some 44) ?_
          refine pm_ HT_ (i := 7) (N := some 45) ?_
          refine pm_ HT_ (i := 8) (N := some 46) ?_
          refine pm_ HT_ (i := 11) (N := some 49) ?_
          refine tm2_ HT_ HW_ (i := 5) (N := some 43) hHeld ?_
          refine tm2_ HT_ HW_ (i := 9) (N := some 47) hHeld ?_
          refine pm_ HT_ (i := 10) (N := some 48) ?_
          refine pm_ HT_ (i := 12) (N := some 50) ?_
          refine pm_ HT_ (i := 13) (N := some 51) ?_
          refine last_ (i := 14) (N := none) #[true, true, true, true, true, true, true, true, true, true, true, true, true, true, true] rfl rfl (one_of HT_.out (by kernel_rfl)) (by decide) (fun K hK => ?_)
          refine skip_ (w1 := ?_) (by rfl) rfl ?_ ?_
          rotate_left
          ·
           go_simp
           rfl
          refine hK.out _ _ ?_
          clear hK K
          refine done_ (done_of HT_.out (by kernel_rfl)) ?_
          try go_wp2
          go_roundg k2
          case measure => have := HK1.out; have := HK2.out; omega
          case rel => exact ⟨(y444), (Int.tmod (wrap64 (x12_2 + (rd x10_2 x13_2))) a0), (wrap64 (x13_2 + 1)), ea_, ea_, H', ⟨by have := HK1.out; have := HK2.out; omega⟩, ⟨by (with_reducible repeat (first | apply Kd.R_alloc | apply Kd.R_drewN | apply Kd.R_drew)); exact HQ22.out⟩, ⟨by (with_reducible repeat (first | apply Kd.R_alloc | apply Kd.R_drewN | apply Kd.R_drew)); exact Kd.R_mono (Kd.R_far (p := ⟨go19, (x13_2 : Int).toNat, none⟩) (Kd.R_mono HO_441001.out (fun k_ hk => (⟨hk, fun e_ => hk (by rw [e_]; rfl)⟩ : _ ∧ k_ ≠ go19))) (fun _ hk => hk.2) (.int .i64 (Int.tmod (wrap64 ((rd x10_2 x13_2) * (rd l1 x13_2))) a0))) (fun _ hk => hk.1)⟩, ⟨by (with_reducible repeat (first | refine blk_drewN ?_ _ | refine blk_drew ?_ | refine blk_alloc ?_ _)); refine blk_far ?_ (by have h_ := Kd.R_ne HO_10.out BK433.out (by decide); intro e_; exact h_ (by rw [e_]; rfl)) _; (with_reducible repeat (first | refine blk_drewN ?_ _ | refine blk_drew ?_ | refine blk_alloc ?_ _)); exact BK433.out⟩, ⟨by (with_reducible repeat (first | refine blk_drewN ?_ _ | refine blk_drew ?_ | refine blk_alloc ?_ _)); refine blk_far ?_ (by have h_ := Kd.R_ne HO_10.out BK440.out (by decide); intro e_; exact h_ (by rw [e_]; rfl)) _; (with_reducible repeat (first | refine blk_drewN ?_ _ | refine blk_drew ?_ | refine blk_alloc ?_ _)); exact BK440.out⟩, ⟨by repeat (first | (with_reducible first | exact HB.out | apply below_alloc | apply pw_below_drewN | apply below_drew1 | refine below_set ?_ GB19.out | refine below_set ?_ GE433.out | refine below_set ?_ GE440.out) | exact HB.out)⟩⟩
        ·
         rw [if_neg c17] at H
         exact absurd H (by simp)
       ·
        rw [if_neg c16] at H
        exact absurd H (by simp)
      ·
       rw [if_neg c15] at H
       have c15b0 : decide (x13_2 < (l1.length : Int)) = false := decide_eq_false c15
       clear c15
       by_cases c23 : x441001_1.length < 17592186044416
       ·
        rw [if_pos c23] at H
        have LMc23 := as0 c23
        clear c23
        obtain ⟨y445, hy445⟩ : ∃ y_ : List Int, y_ = (x441001_1 ++ [x12_2]) := ⟨_, rfl⟩
        replace H : (spec_l02Of.l0 k2 a0 l1 a3 x10_2 (wrap64 (x11_1 + 1)) a0 y445) = some (r1, r2) := by first | (rw [hy445]; with_reducible exact H) | (have H2_ := (Option.bind_some _ _).symm.trans H; rw [hy445]; with_reducible exact H2_) | (have H2_ := (Option.bind_some _ _).symm.trans H; with_reducible exact H2_) | with_reducible exact H | (rw [hy445]; exact H) | exact H
        have Ny445 := as0 hy445
        clear hy445
        have H' := as0 H
        clear H
        have hnb24 := NB440_433.out
        have hnc24 := NB433_440.out
        have hcz25_0 : wr.cell? ⟨gb440, 0, none⟩ = some (.int .i64 a0) := (blk_cell BK440.out 0).trans rfl
        have hcz25_1 : wr.cell? ⟨gb440, 1, none⟩ = some (u441001) := (blk_cell BK440.out 1).trans rfl
        have hfz25_0 := blk_frozen BK440.out 0
        have hfz25_1 := blk_frozen BK440.out 1
        go_wp2_with (first | ((with_reducible refine gate_builtin (b := .append) (xs := #[.tmp 53, .tmp 55]) rfl ?_); at_builtin; refine Kd.R_append (Kd.int .i64) (w0 := w) w.heap.size rfl (.tmp 53) (.tmp 55) 22 2 (.int .i64 0) 8 rfl Try.underlying22 info2 rfl (by decide) (by omega) u441001 x441001_1 x12_2 [.int .i64 x12_2] (fun k_ => some k_ ≠ (v438 : Value).ownBlock) (fun _ => False) rfl rfl ?aP (fun _ hk => hk.elim) ?aF ?aO ?aB ?aS ?aL ?_; (case aP => exact rfl); (case aB => exact (by repeat (first | (with_reducible first | exact HB.out | apply below_alloc | apply pw_below_drewN | apply below_drew1 | refine below_set ?_ GE433.out | refine below_set ?_ GE440.out) | exact HB.out))); (case aF => exact (fun k_ hk => Kd.fresh' (Kd.R_lt (rs HO_10)) k_ hk)); (case aO => exact (rs HO_441001)); (case aS => exact (below_size (by repeat (first | (with_reducible first | exact HB.out | apply below_alloc | apply pw_below_drewN | apply below_drew1 | refine below_set ?_ GE433.out | refine below_set ?_ GE440.out) | exact HB.out)))); (case aL => have := LMc23.out; omega); intro v446 w26 ho hb hg hat; rw [← Ny445.out] at ho; have n0_ := as0 (Kd.R_after (ok := (fun _ => True)) (by (with_reducible repeat (first | apply Kd.R_alloc | apply Kd.R_drewN | apply Kd.R_drew)); exact Kd.R_mono HO_10.out (fun _ hk => ⟨trivial, hk⟩)) hg hat); have n1_ := as0 (blk_grown (g := gb433) (o := .cells #[.int .i64 0, .slice none 0 0] 30 (0, 0)) (by (with_reducible repeat (first | refine blk_drewN ?_ _ | refine blk_drew ?_ | refine blk_alloc ?_ _)); exact BK433.out) hg (Kd.R_ne HO_441001.out BK433.out (by decide))); have n2_ := as0 (blk_grown (g := gb440) (o := .cells #[.int .i64 a0, u441001] 30 (0, 0)) (by (with_reducible repeat (first | refine blk_drewN ?_ _ | refine blk_drew ?_ | refine blk_alloc ?_ _)); exact BK440.out) hg (Kd.R_ne HO_441001.out BK440.out (by decide))); have n3_ := as0 (hb); have n4_ := as0 (ho); clear HO_10; clear BK433; clear BK440; clear HB; clear HO_441001; have HO_10 := n0_; have BK433 := n1_; have BK440 := n2_; have HB := n3_; have HO447 := n4_; clear n0_ n1_ n2_ n3_ n4_; clear ho hb hg hat; obtain ⟨Ao27, co27, eo27⟩ := Kd.R_slice HO447.out; subst eo27; have hcz28_0 : w26.cell? ⟨gb440, 0, none⟩ = some (.int .i64 a0) := (blk_cell BK440.out 0).trans rfl; have hcz28_1 : w26.cell? ⟨gb440, 1, none⟩ = some (u441001) := (blk_cell BK440.out 1).trans rfl; have hfz28_0 := blk_frozen BK440.out 0; have hfz28_1 := blk_frozen BK440.out 1))
        go_roundg k2
        case measure => have := HK1.out; have := HK2.out; omega
        case rel => exact ⟨(x10_2), (wrap64 (x11_1 + 1)), (y445), (.slice Ao27 y445.length co27), ea_, H', ⟨by have := HK1.out; have := HK2.out; omega⟩, ⟨by (with_reducible repeat (first | apply Kd.R_alloc | apply Kd.R_drewN | apply Kd.R_drew)); exact Kd.R_mono (Kd.R_far (p := ⟨gb440, 1, none⟩) (Kd.R_types HO_10.out BK440.out (by decide)) (fun _ hk => hk.2) (.slice Ao27 y445.length co27)) (fun _ hk => hk.1.2)⟩, ⟨by (with_reducible repeat (first | apply Kd.R_alloc | apply Kd.R_drewN | apply Kd.R_drew)); exact Kd.R_mono (Kd.R_far (p := ⟨gb440, 1, none⟩) (Kd.R_types HO447.out BK440.out (by decide)) (fun _ hk => hk.2) (.slice Ao27 y445.length co27)) (fun _ hk => hk.1)⟩, ⟨by (with_reducible repeat (first | refine blk_drewN ?_ _ | refine blk_drew ?_ | refine blk_alloc ?_ _)); refine blk_far ?_ NB433_440.out _; (with_reducible repeat (first | refine blk_drewN ?_ _ | refine blk_drew ?_ | refine blk_alloc ?_ _)); exact BK433.out⟩, ⟨by (with_reducible repeat (first | refine blk_drewN ?_ _ | refine blk_drew ?_ | refine blk_alloc ?_ _)); refine blk_put (cs := #[.int .i64 a0, u441001]) ?_ 1 _ rfl; (with_reducible repeat (first | refine blk_drewN ?_ _ | refine blk_drew ?_ | refine blk_alloc ?_ _)); exact BK440.out⟩, ⟨by repeat (first | (with_reducible first | exact HB.out | apply below_alloc | apply pw_below_drewN | apply below_drew1 | refine below_set ?_ GE433.out | refine below_set ?_ GE440.out) | exact HB.out)⟩⟩
       ·
        rw [if_neg c23] at H
        exact absurd H (by simp)
   ·
    rw [if_neg c14] at H
    have c14b0 : decide (x11_1 < a3) = false := decide_eq_false c14
    clear c14
    simp only [Option.some.injEq, Prod.mk.injEq] at H
    obtain ⟨rfl, rfl⟩ := H
    have hnb29 := NB440_433.out
    have hnc29 := NB433_440.out
    have hcz30_0 : wr.cell? ⟨gb440, 0, none⟩ = some (.int .i64 a0) := (blk_cell BK440.out 0).trans rfl
    have hcz30_1 : wr.cell? ⟨gb440, 1, none⟩ = some (u441001) := (blk_cell BK440.out 1).trans rfl
    have hfz30_0 := blk_frozen BK440.out 0
    have hfz30_1 := blk_frozen BK440.out 1
    have hcz31_0 : wr.cell? ⟨gb433, 0, none⟩ = some (.int .i64 0) := (blk_cell BK433.out 0).trans rfl
    have hcz31_1 : wr.cell? ⟨gb433, 1, none⟩ = some (.slice none 0 0) := (blk_cell BK433.out 1).trans rfl
    have hfz31_0 := blk_frozen BK433.out 0
    have hfz31_1 := blk_frozen BK433.out 1
    obtain ⟨Ao32, co32, eo32⟩ := Kd.R_slice HO_441001.out
    subst eo32
    go_wp2
    refine bodyPost_ret (results_cell_row rfl _ _ gb433 30 #[.int .i64 a0, .slice Ao32 x441001_1.length co32] (0, 0) _ rfl (by (with_reducible repeat (first | refine blk_drewN ?_ _ | refine blk_drew ?_ | refine blk_alloc ?_ _)); refine blk_put (cs := #[.int .i64 a0, .slice none 0 0]) ?_ 1 _ rfl; (with_reducible repeat (first | refine blk_drewN ?_ _ | refine blk_drew ?_ | refine blk_alloc ?_ _)); refine blk_put (cs := #[.int .i64 0, .slice none 0 0]) ?_ 0 _ rfl; (with_reducible repeat (first | refine blk_drewN ?_ _ | refine blk_drew ?_ | refine blk_alloc ?_ _)); exact BK433.out) Try.underlying30 rfl (by kernel_rfl)) rfl ?_
    exact ⟨_, er_, by (with_reducible repeat (first | apply Kd.R_alloc | apply Kd.R_drewN | apply Kd.R_drew)); exact Kd.R_mono (Kd.R_far (p := ⟨gb433, 1, none⟩) (Kd.R_far (p := ⟨gb433, 0, none⟩) (Kd.R_types HO_441001.out BK433.out (by decide)) (fun _ hk => hk.2) (.int .i64 a0)) (fun _ hk => hk.2) (.slice Ao32 x441001_1.length co32)) (fun _ hk => trivial), by repeat (first | (with_reducible first | exact HB.out | apply below_alloc | apply pw_below_drewN | apply below_drew1 | refine below_set ?_ GE433.out | refine below_set ?_ GE440.out) | exact HB.out)⟩
end Go.Proofs.Ytnigpjcnffgfgaa.H
