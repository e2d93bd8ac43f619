/- Joined texts of a claim: the printed functions and what is proved of them. -/
import Derived.Test.YtmadpicanmjhhaaGreatDoorYHx0
import Derived.Test.YtmadpicanmjhhaaGreatDoorMa3
import Derived.Test.YtmadpicanmjhhaaGreatDoorMa2
import Derived.Test.YtmadpicanmjhhaaGreatDoorMa1
namespace Go.Proofs.YtmadpicanmjhhaaGreatDoor.H
open Go.RowKit Go.Proofs.YtmadpicanmjhhaaGreatDoorW.PrintWords Go.Proofs.YtmadpicanmjhhaaGreatDoorW.PrintLast Go.Proofs.YtmadpicanmjhhaaGreatDoorW.PrintMore
attribute [local go_sem] max2_int min2_int max_two min_two max_three min_three max_four min_four   -- for this text's walks alone
set_option linter.unusedVariables false
set_option linter.unusedSimpArgs false
mutual
def spec_l01Times.j0 : Nat → Int → List Int → List Int → Bool → Option (List Int)
 | 0, _, _, _, _ => none
 | k + 1, x0, x1, x2, x17 => if x17 = true then (some (([] : List Int))) else (if 0 ≤ (wrap64 ((wrap64 ((x1.length : Int) + (x2.length : Int))) - 1)) then (if (wrap64 ((wrap64 ((x1.length : Int) + (x2.length : Int))) - 1) : Int).toNat ≤ 35184372088832 then (spec_l01Times.l0 k x0 x1 x2 (List.replicate (wrap64 ((wrap64 ((x1.length : Int) + (x2.length : Int))) - 1) : Int).toNat 0) 0) else (none)) else (none))
def spec_l01Times.l0 : Nat → Int → List Int → List Int → List Int → Int → Option (List Int)
 | 0, _, _, _, _, _ => none
 | k + 1, x0, x1, x2, x7, x8 => if x8 < (x1.length : Int) then (spec_l01Times.l1 k x0 x1 x2 x7 x8 0) else ((spec_l01Trim.f k x7).bind fun t416 => (some t416))
def spec_l01Times.l1 : Nat → Int → List Int → List Int → List Int → Int → Int → Option (List Int)
 | 0, _, _, _, _, _, _ => none
 | k + 1, x0, x1, x2, x7, x8, x9 => if x9 < (x2.length : Int) then (if 0 ≤ (wrap64 (x8 + x9)) then (if (wrap64 (x8 + x9)) < (x7.length : Int) then (if 0 ≤ x8 then (if x8 < (x1.length : Int) then (if 0 ≤ x9 then (if x0 = 0 then (none) else (spec_l01Times.l1 k x0 x1 x2 (x7.set ((wrap64 (x8 + x9)) : Int).toNat (Int.tmod (wrap64 ((rd x7 (wrap64 (x8 + x9))) + (wrap64 ((rd x1 x8) * (rd x2 x9))))) x0)) x8 (wrap64 (x9 + 1)))) else (none)) else (none)) else (none)) else (none)) else (none)) else (spec_l01Times.l0 k x0 x1 x2 x7 (wrap64 (x8 + 1)))
end
def spec_l01Times.f (k : Nat) (a0 : Int) (l1 : List Int) (l2 : List Int) : Option (List Int) := if (l1.length : Int) = 0 then (spec_l01Times.j0 k a0 l1 l2 true) else (spec_l01Times.j0 k a0 l1 l2 ((l2.length : Int) == 0))
def spec_l01Times.T10 : Bool × List (List Nat × List Nat) := (true, [([], []), ([], []), ([], []), ([1, 2], [1, 2]), ([], []), ([], []), ([], []), ([5, 6], [5, 6]), ([4, 7], [4, 7]), ([8], [8]), ([], []), ([], []), ([10, 11], [10, 11]), ([12], [12]), ([], []), ([], []), ([14, 15], [14, 15]), ([16], [16]), ([13, 17], [13, 17]), ([9, 18], [9, 18]), ([], []), ([19, 20], [19, 20]), ([0, 3, 0, 1, 2, 3, 4, 5, 6, 7, 8, 9, 10, 11, 12, 13, 14, 15, 16, 17, 18, 19, 20, 21], [0, 3]), ([22, 21, 0, 1, 2, 3, 4, 5, 6, 7, 8, 9, 10, 11, 12, 13, 14, 15, 16, 17, 18, 19, 20, 21], [21, 22])])
def spec_l01Times.B10 : List Nat := [0, 0, 0, 6, 0, 0, 0, 96, 240, 496, 0, 0, 3072, 7168, 0, 0, 49152, 114688, 261120, 524272, 0, 2097136, 4194303, 8388607]
theorem spec_l01Times.tab10 : rtab .any (opsOf Tryz.f69 10) = spec_l01Times.T10 := by kernel_rfl
theorem spec_l01Times.bits10 : waitsOk spec_l01Times.T10.2 spec_l01Times.B10 = true := by kernel_rfl
set_option maxHeartbeats 8000000 in
set_option maxRecDepth 100000 in
theorem spec_l01Times.calls (k : Nat) (a0 : Int) (A1 : Option Addr) (c1 : Nat) (l1 : List Int) (A2 : Option Addr) (c2 : Nat) (l2 : List Int) (r : List Int) (w : World) (hr1 : Kd.C (Kd.int .i64) w A1 l1.length l1) (hc1 : l1.length ≤ c1) (hr2 : Kd.C (Kd.int .i64) w A2 l2.length l2) (hc2 : l2.length ≤ c2) (h : spec_l01Times.f k a0 l1 l2 = some r) :
  Calls Tryz.prog 69 #[.int .i64 a0, .slice A1 l1.length c1, .slice A2 l2.length c2] w fun e w' => ∃ v0_ : Value, e = .returned (v0_) ∧ Kd.R (Kd.int .i64) 2 w' w.heap.size (fun _ => True) v0_ r ∧ Below w.heap.size w w' := by
 have HR1 := as0 hr1
 have HC1 := as0 hc1
 clear hr1 hc1
 have HR2 := as0 hr2
 have HC2 := as0 hc2
 clear hr2 hc2
 have HB := as0 (Below.refl w.heap.size w)
 have H : (if (l1.length : Int) = 0 then (spec_l01Times.j0 k a0 l1 l2 true) else (spec_l01Times.j0 k a0 l1 l2 ((l2.length : Int) == 0))) = some r := h
 clear h
 have HC4 := as0 H
 clear H
 go_enter Tryz.func69, Tryz.ntmps69
 go_upto_region 1 with (fail)
 go_cut [17] (fun v17 wc => ∃ (kq : Nat) (x17_3 : Bool), v17 = .bool x17_3 ∧ Aside0 (spec_l01Times.j0 kq a0 l1 l2 x17_3 = some r) ∧ Aside0 (kq ≤ k) ∧ Aside0 (Below w.heap.size w wc))
 case first =>
  have H := HC4.out
  clear HC4
  by_cases c5 : (l1.length : Int) = 0
  ·
   rw [if_pos c5] at H
   have c5b0 : ((l1.length : Int) == 0) = true := beq_iff_eq.mpr c5
   have c5b1 : ((l1.length : Int) != 0) = false := bne_eq_false_iff_eq.mpr c5
   clear c5
   (first | rw [c5b0] | (simp only [i64_w, i32_w]; rw [c5b0]) | skip)
   have H' := as0 H
   clear H
   go_wp2
   go_meet
   case rel => exact ⟨_, (true), ea_, H', ⟨by first | omega | exact Nat.le_refl _⟩, ⟨bs HB⟩⟩
  ·
   rw [if_neg c5] at H
   have c5b0 : ((l1.length : Int) == 0) = false := beq_eq_false_iff_ne.mpr c5
   have c5b1 : ((l1.length : Int) != 0) = true := bne_iff_ne.mpr c5
   have c5b2 : ¬ (l1 = []) := fun h_ => c5 (by rw [h_]; rfl)
   (first | rw [c5b0] | (simp only [i64_w, i32_w]; rw [c5b0]) | skip)
   have H' := as0 H
   clear H
   go_wp2
   go_meet
   case rel => exact ⟨_, (((l2.length : Int) == 0)), ea_, H', ⟨by first | omega | exact Nat.le_refl _⟩, ⟨bs HB⟩⟩
 case rest =>
  clear HC4
  try clear c1
  try clear c2
  try clear p2
  try clear c5
  try clear c5b0
  try clear c5b1
  try clear c5b2
  obtain ⟨kq, x17_3, rfl, HA, HJ3, HB⟩ := hcut
  cases kq with
  | zero => exact absurd HA.out (by simp [spec_l01Times.j0])
  | succ kj3 =>
   have H := HA.out
   clear HA
   simp only [spec_l01Times.j0] at H
   by_cases c6 : x17_3 = true
   ·
    subst c6
    have H1 : (some (([] : List Int))) = some r := by rw [if_pos rfl] at H; exact H
    clear H
    have H := H1
    clear H1
    obtain ⟨y410, hy410⟩ : ∃ y_ : List Int, y_ = (([] : List Int)) := ⟨_, rfl⟩
    replace H : (some y410) = some r := by first | (rw [hy410]; with_reducible exact H) | (have H2_ := (Option.bind_some _ _).symm.trans H; rw [hy410]; with_reducible exact H2_) | (have H2_ := (Option.bind_some _ _).symm.trans H; with_reducible exact H2_) | with_reducible exact H | (rw [hy410]; exact H) | exact H
    have Ny410 := as0 hy410
    clear hy410
    obtain rfl := Option.some.inj H
    go_wp2_with (first | ((with_reducible refine gate_dst (N := 18) rfl ?_); (try (refine gate_guard (by rfl) ?_; dsimp only)); refine Kd.R_lit (Kd.int .i64) _ 2 ?hg (N := 18) ?hd (xs := ([] : List Int)) (inner := []) (ok := fun _ => True) (okp := fun _ => True) ?hr ?hp (fun _ hk => hk) trivial (Below.refl _ _) (Nat.le_refl _) (by simp) ?_; (case hd => rfl); (case hg => rfl); (case hr => first | (go_simp; done) | (go_simp; rfl)); (case hp => exact (Reps.none _ _)); intro v411 w7 ho8 hb hg_ hnew_; clear hg_ hnew_; (first | rw [← Ny410.out] at ho8 | (simp only [Int.reduceToNat] at ho8; rw [← Ny410.out] at ho8)); have n0_ := as0 (Kd.R_lower ho8 (below_size (bs HB))); have n1_ := as0 (below_step (bs HB) hb); clear HB; have HO412 := n0_; have HB := n1_; clear n0_ n1_; clear hb ho8))
    go_ret
    exact ⟨_, er_, rs HO412, bs HB⟩
   ·
    replace c6 := Bool.eq_false_iff.mpr c6
    subst c6
    have H1 : (if 0 ≤ (wrap64 ((wrap64 ((l1.length : Int) + (l2.length : Int))) - 1)) then (if (wrap64 ((wrap64 ((l1.length : Int) + (l2.length : Int))) - 1) : Int).toNat ≤ 35184372088832 then (spec_l01Times.l0 kj3 a0 l1 l2 (List.replicate (wrap64 ((wrap64 ((l1.length : Int) + (l2.length : Int))) - 1) : Int).toNat 0) 0) else (none)) else (none)) = some r := by rw [if_neg (show ¬ (false = true) by decide)] at H; exact H
    clear H
    have H := H1
    clear H1
    obtain ⟨ji9, hji9⟩ : ∃ j_ : Int, (wrap64 ((wrap64 ((l1.length : Int) + (l2.length : Int))) - 1)) = j_ := ⟨_, rfl⟩
    replace H : (if 0 ≤ (ji9) then (if (ji9 : Int).toNat ≤ 35184372088832 then (spec_l01Times.l0 kj3 a0 l1 l2 (List.replicate (ji9 : Int).toNat 0) 0) else (none)) else (none)) = some r := by first | (rw [hji9] at H; exact H) | (simp only [hji9] at H ⊢; exact H)
    have hji9w : (IntKind.i64.wrap ((wrap64 ((l1.length : Int) + (l2.length : Int))) - 1)) = ji9 := (i64_w _).trans hji9
    by_cases c10 : 0 ≤ (ji9)
    ·
     rw [if_pos c10] at H
     have c10b0 := eq_true c10
     have c10b1 : decide (0 ≤ (ji9)) = true := decide_eq_true c10
     clear c10
     by_cases c11 : (ji9 : Int).toNat ≤ 35184372088832
     ·
      rw [if_pos c11] at H
      have c11b0 := eq_true c11
      have c11b1 : decide ((ji9 : Int).toNat ≤ 35184372088832) = true := decide_eq_true c11
      clear c11
      obtain ⟨y413, hy413⟩ : ∃ y_ : List Int, y_ = (List.replicate (ji9 : Int).toNat 0) := ⟨_, rfl⟩
      replace H : (spec_l01Times.l0 kj3 a0 l1 l2 y413 0) = some r := by first | (rw [hy413]; with_reducible exact H) | (have H2_ := (Option.bind_some _ _).symm.trans H; rw [hy413]; with_reducible exact H2_) | (have H2_ := (Option.bind_some _ _).symm.trans H; with_reducible exact H2_) | with_reducible exact H | (rw [hy413]; exact H) | exact H
      have Ny413 := as0 hy413
      clear hy413
      have H' := as0 H
      clear H
      go_wp2_with (first | ((with_reducible refine gate_dst (N := 25) rfl ?_); (try (refine gate_guard (by rfl) ?_; dsimp only)); refine Kd.R_make (Kd.int .i64) _ 2 rfl (N := 25) rfl 24 _ _ rfl ji9 rfl rfl Tryz.underlying24 (.int .i64 0) 8 info2 rfl (by decide) (by omega) 0 (ok := fun _ => True) (okp := fun _ => True) rfl (fun _ hk => hk) trivial (oa_) (Nat.le_trans (Nat.mul_le_mul_right _ (oa_ : ji9.toNat ≤ 35184372088832)) (by omega)) (Below.refl _ _) (Nat.le_refl _) ?_; intro v414 w12 ho13 hb hg_ hnew_; clear hg_ hnew_; (first | rw [← Ny413.out] at ho13 | (simp only [Int.reduceToNat] at ho13; rw [← Ny413.out] at ho13)); have n0_ := as0 (Kd.R_lower ho13 (below_size (bs HB))); have n1_ := as0 (below_step (bs HB) hb); clear HB; have HO415 := n0_; have HB := n1_; clear n0_ n1_; clear hb ho13))
      go_loopg [8] kj3 (fun kq v8 w' => ∃ (x7_2 : List Int) (x8_2 : Int), v8 = .int .i64 x8_2 ∧ Aside0 (spec_l01Times.l0 kq a0 l1 l2 x7_2 x8_2 = some r) ∧ Aside0 (kq ≤ kj3) ∧ Aside0 (Kd.R (Kd.int .i64) 2 w' w.heap.size (fun _ => True) v414 x7_2) ∧ Aside0 (Below w.heap.size w w'))
      case atStart => exact ⟨(y413), (0), ea_, H', ⟨Nat.le_refl _⟩, ⟨rs HO415⟩, ⟨bs HB⟩⟩
      case round =>
       clear H'
       try clear c1
       try clear c2
       try clear p2
       try clear c5
       try clear c5b0
       try clear c5b1
       try clear c5b2
       try clear c6
       try clear p6
       try clear c10
       try clear c10b0
       try clear c10b1
       try clear c11
       try clear c11b0
       try clear c11b1
       try clear p2
       obtain ⟨x7_2, x8_2, rfl, HA, HK2, HO_7, HB⟩ := hrel
       cases gk with
       | zero => exact absurd HA.out (by simp [spec_l01Times.l0])
       | succ k2 =>
        have H := HA.out
        clear HA
        simp only [spec_l01Times.l0] at H
        by_cases c14 : x8_2 < (l1.length : Int)
        ·
         rw [if_pos c14] at H
         have c14b0 : decide (x8_2 < (l1.length : Int)) = true := decide_eq_true c14
         clear c14
         have H' := as0 H
         clear H
         go_wp2
         go_loopg [9] k2 (fun kq v9 w' => ∃ (x7_3 : List Int) (x9_3 : Int), v9 = .int .i64 x9_3 ∧ Aside0 (spec_l01Times.l1 kq a0 l1 l2 x7_3 x8_2 x9_3 = some r) ∧ Aside0 (kq ≤ k2) ∧ Aside0 (Kd.R (Kd.int .i64) 2 w' w.heap.size (fun _ => True) v414 x7_3) ∧ Aside0 (Below w.heap.size w w'))
         case atStart => exact ⟨(x7_2), (0), ea_, H', ⟨Nat.le_refl _⟩, ⟨rs HO_7⟩, ⟨bs HB⟩⟩
         case round =>
          clear H'
          try clear c1
          try clear c2
          try clear p2
          try clear c5
          try clear c5b0
          try clear c5b1
          try clear c5b2
          try clear c6
          try clear p6
          try clear c10
          try clear c10b0
          try clear c10b1
          try clear c11
          try clear c11b0
          try clear c11b1
          try clear c14
          try clear c14b0
          try clear p2
          try clear p6
          obtain ⟨x7_3, x9_3, rfl, HA, HK3, HO_7, HB⟩ := hrel
          cases gk with
          | zero => exact absurd HA.out (by simp [spec_l01Times.l1])
          | succ k3 =>
           have H := HA.out
           clear HA
           simp only [spec_l01Times.l1] at H
           by_cases c15 : x9_3 < (l2.length : Int)
           ·
            rw [if_pos c15] at H
            have c15b0 : decide (x9_3 < (l2.length : Int)) = true := decide_eq_true c15
            clear c15
            obtain ⟨ji16, hji16⟩ : ∃ j_ : Int, (wrap64 (x8_2 + x9_3)) = j_ := ⟨_, rfl⟩
            replace H : (if 0 ≤ (ji16) then (if (ji16) < (x7_3.length : Int) then (if 0 ≤ x8_2 then (if x8_2 < (l1.length : Int) then (if 0 ≤ x9_3 then (if a0 = 0 then (none) else (spec_l01Times.l1 k3 a0 l1 l2 (x7_3.set ((ji16) : Int).toNat (Int.tmod (wrap64 ((rd x7_3 (ji16)) + (wrap64 ((rd l1 x8_2) * (rd l2 x9_3))))) a0)) x8_2 (wrap64 (x9_3 + 1)))) else (none)) else (none)) else (none)) else (none)) else (none)) = some r := by first | (rw [hji16] at H; exact H) | (simp only [hji16] at H ⊢; exact H)
            have hji16w : (IntKind.i64.wrap (x8_2 + x9_3)) = ji16 := (i64_w _).trans hji16
            by_cases c17 : 0 ≤ (ji16)
            ·
             rw [if_pos c17] at H
             have c17b0 : decide (0 ≤ (ji16)) = true := decide_eq_true c17
             clear c17
             by_cases c18 : (ji16) < (x7_3.length : Int)
             ·
              rw [if_pos c18] at H
              have c18b0 : decide ((ji16) < (x7_3.length : Int)) = true := decide_eq_true c18
              clear c18
              by_cases c19 : 0 ≤ x8_2
              ·
               rw [if_pos c19] at H
               have c19b0 : decide (0 ≤ x8_2) = true := decide_eq_true c19
               clear c19
               by_cases c20 : x8_2 < (l1.length : Int)
               ·
                rw [if_pos c20] at H
                have c20b0 : decide (x8_2 < (l1.length : Int)) = true := decide_eq_true c20
                clear c20
                by_cases c21 : 0 ≤ x9_3
                ·
                 rw [if_pos c21] at H
                 have c21b0 : decide (0 ≤ x9_3) = true := decide_eq_true c21
                 clear c21
                 by_cases c22 : a0 = 0
                 ·
                  rw [if_pos c22] at H
                  exact absurd H (by simp)
                 ·
                  rw [if_neg c22] at H
                  have c22b0 : (a0 == 0) = false := beq_eq_false_iff_ne.mpr c22
                  have c22b1 : (a0 != 0) = true := bne_iff_ne.mpr c22
                  obtain ⟨y422, hy422⟩ : ∃ y_ : List Int, y_ = (x7_3.set ((ji16) : Int).toNat (Int.tmod (wrap64 ((rd x7_3 (ji16)) + (wrap64 ((rd l1 x8_2) * (rd l2 x9_3))))) a0)) := ⟨_, rfl⟩
                  replace H : (spec_l01Times.l1 k3 a0 l1 l2 y422 x8_2 (wrap64 (x9_3 + 1))) = some r := by first | (rw [hy422]; with_reducible exact H) | (have H2_ := (Option.bind_some _ _).symm.trans H; rw [hy422]; with_reducible exact H2_) | (have H2_ := (Option.bind_some _ _).symm.trans H; with_reducible exact H2_) | with_reducible exact H | (rw [hy422]; exact H) | exact H
                  have Ny422 := as0 hy422
                  clear hy422
                  have H' := as0 H
                  clear H
                  try go_wp2
                  have n0_ := as0 (Kd.R_drew HO_7.out)
                  have n1_ := as0 (below_drew1 HB.out)
                  clear HO_7
                  clear HB
                  have HO_7 := n0_
                  have HB := n1_
                  clear n0_ n1_
                  obtain ⟨Ao25, co25, eo25⟩ := Kd.R_slice HO_7.out
                  (first | subst eo25 | (injection eo25 with f1_ f2_ f3_; have f4_ := f1_.symm; have f5_ := f3_.symm; clear f1_ f2_ f3_; subst f4_; subst f5_))
                  have p419 : 0 ≤ ((ji16) : Int) := oa_
                  have q419 : (ji16) < (x7_3.length : Int) := oa_
                  obtain ⟨ad419, e419, hx419_0⟩ := Kd.at_int (Kd.R_reads' HO_7.out).2.2 (ji16) p419 q419
                  cases e419
                  replace p419 := eq_true p419
                  replace q419 := eq_true q419
                  have p420 : 0 ≤ (x8_2 : Int) := oa_
                  have q420 : x8_2 < (l1.length : Int) := oa_
                  obtain ⟨ad420, e420, hx420_0⟩ := Kd.at_int HR1.out x8_2 p420 q420
                  have hw420_0 := hx420_0
                  cases e420
                  replace hx420_0 := (HB.out.cell (World.block_lt_of_cell? w _ hx420_0)).trans hx420_0
                  replace p420 := eq_true p420
                  replace q420 := eq_true q420
                  have p421 : 0 ≤ (x9_3 : Int) := oa_
                  have q421 : x9_3 < (l2.length : Int) := oa_
                  obtain ⟨ad421, e421, hx421_0⟩ := Kd.at_int HR2.out x9_3 p421 q421
                  have hw421_0 := hx421_0
                  cases e421
                  replace hx421_0 := (HB.out.cell (World.block_lt_of_cell? w _ hx421_0)).trans hx421_0
                  replace p421 := eq_true p421
                  replace q421 := eq_true q421
                  have p23 : 0 ≤ ((ji16) : Int) := oa_
                  have q23 : ((ji16) : Int) < ((x7_3.length : Int) : Int) := oa_
                  obtain ⟨go23, co23, eo23, gb23, gl23, cl23, HG23⟩ := Kd.R_form HO_7.out (by omega)
                  (first | cases eo23 | (injection eo23 with ea_ en_ ec_; (first | subst ea_ | (injection ea_ with ea_; subst ea_)); subst ec_; clear en_))
                  have GB23 := as0 gb23
                  have GG23 := as0 HG23
                  clear gb23 gl23 HG23
                  (first | simp only [add_plain] at hx419_0 | skip)
                  obtain ⟨hx23_0, hf23_0⟩ := Kd.R_celln 0 HO_7.out ((ji16) : Int) p23 q23
                  replace p23 := eq_true p23
                  replace q23 := eq_true q23
                  have HP26 := Kd.R_putn HO_7.out ((ji16) : Int) (Int.tmod (wrap64 ((rd x7_3 (ji16)) + (wrap64 ((rd l1 x8_2) * (rd l2 x9_3))))) a0)
                  rw [← Ny422.out] at HP26
                  have HQ26 := as0 HP26
                  clear HP26
                  refine start_ (n := 24) (S := fun w' => w'.cell? ⟨go23, ((ji16)).toNat, none⟩ = some (.int .i64 (rd x7_3 (ji16))) ∧ w'.cell? (ad420.add (x8_2).toNat) = some (.int .i64 (rd l1 x8_2)) ∧ w'.cell? (ad421.add (x9_3).toNat) = some (.int .i64 (rd l2 x9_3))) (ds := [23]) #[false, false, false, false, false, false, false, false, false, false, false, false, false, false, false, false, false, false, false, false, false, false, false, false] (by kernel_rfl) rfl rfl ⟨hx419_0, ((HB.out.cell (World.block_lt_of_cell? w _ hw420_0)).trans hw420_0), ((HB.out.cell (World.block_lt_of_cell? w _ hw421_0)).trans hw421_0)⟩ (fun hHeld => ?_); refine with_tabW spec_l01Times.tab10 spec_l01Times.bits10 (fun HT_ HW_ => ?_)
                  generalize wr.drew = w24 at HO_7 HB GG23 HQ26 hf23_0 hx23_0 hx419_0 hx420_0 hx421_0 hHeld ⊢
                  refine pm_ HT_ (i := 0) (N := some 38) ?_
                  refine pm_ HT_ (i := 1) (N := some 39) ?_
                  refine pm_ HT_ (i := 2) (N := some 40) ?_
                  refine pm_ HT_ (i := 3) (N := some 41) ?_
                  refine pm_ HT_ (i := 4) (N := some 42) ?_
                  refine pm_ HT_ (i := 5) (N := some 43) ?_
                  refine pm_ HT_ (i := 6) (N := some 44) ?_
                  refine pm_ HT_ (i := 7) (N := some 45) ?_
                  refine pm_ HT_ (i := 8) (N := some 46) ?_
                  refine pm_ HT_ (i := 10) (N := some 48) ?_
                  refine pm_ HT_ (i := 11) (N := some 49) ?_
                  refine pm_ HT_ (i := 12) (N := some 50) ?_
                  refine pm_ HT_ (i := 14) (N := some 52) ?_
                  refine pm_ HT_ (i := 15) (N := some 53) ?_
                  refine pm_ HT_ (i := 16) (N := some 54) ?_
                  refine pm_ HT_ (i := 20) (N := some 58) ?_
                  refine tm3_ HT_ HW_ (i := 9) (N := some 47) hHeld ?_
                  refine tm3_ HT_ HW_ (i := 13) (N := some 51) hHeld ?_
                  refine tm3_ HT_ HW_ (i := 17) (N := some 55) hHeld ?_
                  refine pm_ HT_ (i := 18) (N := some 56) ?_
                  refine pm_ HT_ (i := 19) (N := some 57) ?_
                  refine pm_ HT_ (i := 21) (N := some 59) ?_
                  refine pm_ HT_ (i := 22) (N := some 60) ?_
                  refine last_ (i := 23) (N := none) #[true, true, true, true, true, true, true, true, true, true, true, true, true, true, true, true, true, true, true, true, true, true, true, true] rfl rfl (one_of HT_.out (by kernel_rfl)) (by decide) (fun K hK => ?_)
                  refine skip_ (w1 := ?_) (by rfl) rfl ?_ ?_
                  rotate_left
                  ·
                   go_simp
                   rfl
                  refine hK.out _ _ ?_
                  clear hK K
                  refine done_ (done_of HT_.out (by kernel_rfl)) ?_
                  try go_wp2
                  go_roundg k3
                  case measure => have := HJ3.out; have := HK2.out; have := HK3.out; omega
                  case rel => exact ⟨(y422), (wrap64 (x9_3 + 1)), ea_, H', ⟨by have := HJ3.out; have := HK2.out; have := HK3.out; omega⟩, ⟨by (with_reducible repeat (first | apply Kd.R_alloc | apply Kd.R_drewN | apply Kd.R_drew)); exact HQ26.out⟩, ⟨by repeat (first | (with_reducible first | exact HB.out | apply below_alloc | apply pw_below_drewN | apply below_drew1 | refine below_set ?_ GB23.out) | exact HB.out)⟩⟩
                ·
                 rw [if_neg c21] at H
                 exact absurd H (by simp)
               ·
                rw [if_neg c20] at H
                exact absurd H (by simp)
              ·
               rw [if_neg c19] at H
               exact absurd H (by simp)
             ·
              rw [if_neg c18] at H
              exact absurd H (by simp)
            ·
             rw [if_neg c17] at H
             exact absurd H (by simp)
           ·
            rw [if_neg c15] at H
            have c15b0 : decide (x9_3 < (l2.length : Int)) = false := decide_eq_false c15
            clear c15
            have H' := as0 H
            clear H
            go_wp2
            go_roundg k3
            case measure => have := HJ3.out; have := HK2.out; have := HK3.out; omega
            case rel => exact ⟨(x7_3), (wrap64 (x8_2 + 1)), ea_, H', ⟨by have := HJ3.out; have := HK2.out; have := HK3.out; omega⟩, ⟨rs HO_7⟩, ⟨bs HB⟩⟩
        ·
         rw [if_neg c14] at H
         have c14b0 : decide (x8_2 < (l1.length : Int)) = false := decide_eq_false c14
         clear c14
         replace H := Option.bind_eq_some_iff.mp H
         obtain ⟨t416, A270, H⟩ := H
         have A27 := as0 A270
         clear A270
         obtain rfl := Option.some.inj H
         obtain ⟨Ao28, co28, eo28⟩ := Kd.R_slice HO_7.out
         subst eo28
         go_wp2_with (first | ((with_reducible refine gate_callee (f := 74) rfl ?_); refine goesM_ (some 62) rfl rfl Tryz.func74 #[.slice Ao28 x7_2.length co28] rfl ?_; (with_reducible refine (spec_l01Trim.calls k2 _ _ x7_2 t416 _ ?side1 ?side2 A27.out).mono ?_); (case side1 => exact cs ((Kd.R_reads' HO_7.out).2.2)); (case side2 => exact (Kd.R_reads' HO_7.out).2.1); rintro e w29 ⟨v417, rfl, ho0, hb⟩; refine ⟨_, rfl, ?_⟩; have n0_ := as0 (Kd.R_elder' (rs HO_7) (Kd.R_base ho0) hb); have n1_ := as0 (Kd.R_lower (Kd.R_new' ho0 (Kd.R_lt (rs HO_7))) (below_size (bs HB))); have n2_ := as0 (below_step (bs HB) hb); clear HO_7; clear HB; have HO_7 := n0_; have HO418 := n1_; have HB := n2_; clear n0_ n1_ n2_; (try clear hb); (try clear hb2); (try clear hk); (try clear hi); (try clear ho0)))
         go_ret
         exact ⟨_, by first | rfl | (simp [errW_none, errW_some] <;> rfl) | (simp only [← hji9]; first | rfl | (simp [errW_none, errW_some] <;> rfl)) | (simp [*, errW_none, errW_some] <;> rfl), by (with_reducible repeat (first | apply Kd.R_alloc | apply Kd.R_drewN | apply Kd.R_drew)); exact Kd.R_mono HO418.out (fun _ hk => trivial), bs HB⟩
     ·
      rw [if_neg c11] at H
      exact absurd H (by simp)
    ·
     rw [if_neg c10] at H
     exact absurd H (by simp)
def spec_l01Interpolate.l0 : Nat → Int → List Int → List Int → List Int → List Int → Int → Option (List Int)
 | 0, _, _, _, _, _, _ => none
 | k + 1, x0, x1, x2, x7, x8, x9 => if x9 < (x1.length : Int) then (if 0 ≤ x9 then (if x9 < (x2.length : Int) then ((spec_l01At.f k x0 x7 (rd x1 x9)).bind fun t431 => ((spec_l01Mod.f x0 (wrap64 ((rd x2 x9) - t431))).bind fun t432 => ((spec_l01At.f k x0 x8 (rd x1 x9)).bind fun t434 => ((spec_l01Inverse.f k x0 t434).bind fun t435 => (if x0 = 0 then (none) else ((spec_l01Add.f k x0 x7 x8 (Int.tmod (wrap64 (t432 * t435)) x0)).bind fun t436 => ((spec_l01Mod.f x0 (wrap64 (-(rd x1 x9)))).bind fun t440 => ((spec_l01Times.f k x0 x8 (([t440, 1] : List Int))).bind fun t444 => (spec_l01Interpolate.l0 k x0 x1 x2 t436 t444 (wrap64 (x9 + 1))))))))))) else (none)) else (none)) else (some x7)
def spec_l01Interpolate.f (k : Nat) (a0 : Int) (l1 : List Int) (l2 : List Int) : Option (List Int) := spec_l01Interpolate.l0 k a0 l1 l2 (([] : List Int)) (([1] : List Int)) 0
set_option maxHeartbeats 8000000 in
set_option maxRecDepth 100000 in
theorem spec_l01Interpolate.calls (k : Nat) (a0 : Int) (A1 : Option Addr) (c1 : Nat) (l1 : List Int) (A2 : Option Addr) (c2 : Nat) (l2 : List Int) (r : List Int) (w : World) (hr1 : Kd.C (Kd.int .i64) w A1 l1.length l1) (hc1 : l1.length ≤ c1) (hr2 : Kd.C (Kd.int .i64) w A2 l2.length l2) (hc2 : l2.length ≤ c2) (h : spec_l01Interpolate.f k a0 l1 l2 = some r) :
  Calls Tryz.prog 33 #[.int .i64 a0, .slice A1 l1.length c1, .slice A2 l2.length c2] w fun e w' => ∃ v0_ : Value, e = .returned (v0_) ∧ Kd.R (Kd.int .i64) 2 w' w.heap.size (fun _ => True) v0_ r ∧ Below w.heap.size w w' := by
 have HR1 := as0 hr1
 have HC1 := as0 hc1
 clear hr1 hc1
 have HR2 := as0 hr2
 have HC2 := as0 hc2
 clear hr2 hc2
 have HB := as0 (Below.refl w.heap.size w)
 have H : (spec_l01Interpolate.l0 k a0 l1 l2 (([] : List Int)) (([1] : List Int)) 0) = some r := h
 clear h
 obtain ⟨y423, hy423⟩ : ∃ y_ : List Int, y_ = (([] : List Int)) := ⟨_, rfl⟩
 replace H : (spec_l01Interpolate.l0 k a0 l1 l2 y423 (([1] : List Int)) 0) = some r := by first | (rw [hy423]; with_reducible exact H) | (have H2_ := (Option.bind_some _ _).symm.trans H; rw [hy423]; with_reducible exact H2_) | (have H2_ := (Option.bind_some _ _).symm.trans H; with_reducible exact H2_) | with_reducible exact H | (rw [hy423]; exact H) | exact H
 have Ny423 := as0 hy423
 clear hy423
 obtain ⟨y426, hy426⟩ : ∃ y_ : List Int, y_ = (([1] : List Int)) := ⟨_, rfl⟩
 replace H : (spec_l01Interpolate.l0 k a0 l1 l2 y423 y426 0) = some r := by first | (rw [hy426]; with_reducible exact H) | (have H2_ := (Option.bind_some _ _).symm.trans H; rw [hy426]; with_reducible exact H2_) | (have H2_ := (Option.bind_some _ _).symm.trans H; with_reducible exact H2_) | with_reducible exact H | (rw [hy426]; exact H) | exact H
 have Ny426 := as0 hy426
 clear hy426
 have H' := as0 H
 clear H
 go_enter Tryz.func33, Tryz.ntmps33
 go_wp2_with (first | ((with_reducible refine gate_dst (N := 11) rfl ?_); refine Kd.R_lit (Kd.int .i64) _ 2 ?hg (N := 11) ?hd (xs := ([] : List Int)) (inner := []) (ok := fun _ => True) (okp := fun _ => True) ?hr ?hp (fun _ hk => hk) trivial (Below.refl _ _) (Nat.le_refl _) (by simp) ?_; (case hd => rfl); (case hg => rfl); (case hr => first | (go_simp; done) | (go_simp; rfl)); (case hp => exact (Reps.none _ _)); intro v424 w4 ho5 hb hg_ hnew_; clear hg_ hnew_; (first | rw [← Ny423.out] at ho5 | (simp only [Int.reduceToNat] at ho5; rw [← Ny423.out] at ho5)); have n0_ := as0 (Kd.R_lower ho5 (below_size (bs HB))); have n1_ := as0 (below_step (bs HB) hb); clear HB; have HO425 := n0_; have HB := n1_; clear n0_ n1_; clear hb ho5) | ((with_reducible refine gate_dst (N := 12) rfl ?_); refine Kd.R_lit (Kd.int .i64) _ 2 ?hg (N := 12) ?hd (xs := ([1] : List Int)) (inner := [.int .i64 1]) (ok := fun _ => True) (okp := fun _ => True) ?hr ?hp (fun _ hk => hk) trivial (Below.refl _ _) (Nat.le_refl _) (by simp) ?_; (case hd => rfl); (case hg => rfl); (case hr => first | (go_simp; done) | (go_simp; rfl)); (case hp => exact (Reps.one (show Kd.M (Kd.int .i64) _ _ _ 1 [.int .i64 1] from rfl) (Reps.none _ _))); intro v427 w6 ho7 hb hg_ hnew_; clear hg_ hnew_; (first | rw [← Ny426.out] at ho7 | (simp only [Int.reduceToNat] at ho7; rw [← Ny426.out] at ho7)); have n0_ := as0 (Kd.R_elder' (rs HO425) (Kd.R_base ho7) hb); have n1_ := as0 (Kd.R_lower (Kd.R_new' ho7 (Kd.R_lt (rs HO425))) (below_size (bs HB))); have n2_ := as0 (below_step (bs HB) hb); clear HO425; clear HB; have HO425 := n0_; have HO428 := n1_; have HB := n2_; clear n0_ n1_ n2_; clear hb ho7))
 repeat (go_quiet (first | ((with_reducible refine gate_dst (N := 11) rfl ?_); refine Kd.R_lit (Kd.int .i64) _ 2 ?hg (N := 11) ?hd (xs := ([] : List Int)) (inner := []) (ok := fun _ => True) (okp := fun _ => True) ?hr ?hp (fun _ hk => hk) trivial (Below.refl _ _) (Nat.le_refl _) (by simp) ?_; (case hd => rfl); (case hg => rfl); (case hr => first | (go_simp; done) | (go_simp; rfl)); (case hp => exact (Reps.none _ _)); intro v424 w4 ho5 hb hg_ hnew_; clear hg_ hnew_; (first | rw [← Ny423.out] at ho5 | (simp only [Int.reduceToNat] at ho5; rw [← Ny423.out] at ho5)); have n0_ := as0 (Kd.R_lower ho5 (below_size (bs HB))); have n1_ := as0 (below_step (bs HB) hb); clear HB; have HO425 := n0_; have HB := n1_; clear n0_ n1_; clear hb ho5) | ((with_reducible refine gate_dst (N := 12) rfl ?_); refine Kd.R_lit (Kd.int .i64) _ 2 ?hg (N := 12) ?hd (xs := ([1] : List Int)) (inner := [.int .i64 1]) (ok := fun _ => True) (okp := fun _ => True) ?hr ?hp (fun _ hk => hk) trivial (Below.refl _ _) (Nat.le_refl _) (by simp) ?_; (case hd => rfl); (case hg => rfl); (case hr => first | (go_simp; done) | (go_simp; rfl)); (case hp => exact (Reps.one (show Kd.M (Kd.int .i64) _ _ _ 1 [.int .i64 1] from rfl) (Reps.none _ _))); intro v427 w6 ho7 hb hg_ hnew_; clear hg_ hnew_; (first | rw [← Ny426.out] at ho7 | (simp only [Int.reduceToNat] at ho7; rw [← Ny426.out] at ho7)); have n0_ := as0 (Kd.R_elder' (rs HO425) (Kd.R_base ho7) hb); have n1_ := as0 (Kd.R_lower (Kd.R_new' ho7 (Kd.R_lt (rs HO425))) (below_size (bs HB))); have n2_ := as0 (below_step (bs HB) hb); clear HO425; clear HB; have HO425 := n0_; have HO428 := n1_; have HB := n2_; clear n0_ n1_ n2_; clear hb ho7)); try go_wp2_with (first | ((with_reducible refine gate_dst (N := 11) rfl ?_); refine Kd.R_lit (Kd.int .i64) _ 2 ?hg (N := 11) ?hd (xs := ([] : List Int)) (inner := []) (ok := fun _ => True) (okp := fun _ => True) ?hr ?hp (fun _ hk => hk) trivial (Below.refl _ _) (Nat.le_refl _) (by simp) ?_; (case hd => rfl); (case hg => rfl); (case hr => first | (go_simp; done) | (go_simp; rfl)); (case hp => exact (Reps.none _ _)); intro v424 w4 ho5 hb hg_ hnew_; clear hg_ hnew_; (first | rw [← Ny423.out] at ho5 | (simp only [Int.reduceToNat] at ho5; rw [← Ny423.out] at ho5)); have n0_ := as0 (Kd.R_lower ho5 (below_size (bs HB))); have n1_ := as0 (below_step (bs HB) hb); clear HB; have HO425 := n0_; have HB := n1_; clear n0_ n1_; clear hb ho5) | ((with_reducible refine gate_dst (N := 12) rfl ?_); refine Kd.R_lit (Kd.int .i64) _ 2 ?hg (N := 12) ?hd (xs := ([1] : List Int)) (inner := [.int .i64 1]) (ok := fun _ => True) (okp := fun _ => True) ?hr ?hp (fun _ hk => hk) trivial (Below.refl _ _) (Nat.le_refl _) (by simp) ?_; (case hd => rfl); (case hg => rfl); (case hr => first | (go_simp; done) | (go_simp; rfl)); (case hp => exact (Reps.one (show Kd.M (Kd.int .i64) _ _ _ 1 [.int .i64 1] from rfl) (Reps.none _ _))); intro v427 w6 ho7 hb hg_ hnew_; clear hg_ hnew_; (first | rw [← Ny426.out] at ho7 | (simp only [Int.reduceToNat] at ho7; rw [← Ny426.out] at ho7)); have n0_ := as0 (Kd.R_elder' (rs HO425) (Kd.R_base ho7) hb); have n1_ := as0 (Kd.R_lower (Kd.R_new' ho7 (Kd.R_lt (rs HO425))) (below_size (bs HB))); have n2_ := as0 (below_step (bs HB) hb); clear HO425; clear HB; have HO425 := n0_; have HO428 := n1_; have HB := n2_; clear n0_ n1_ n2_; clear hb ho7)))
 go_loopg [7, 8, 9] k (fun kq v7 v8 v9 w' => ∃ (x7_1 : List Int) (x8_1 : List Int) (x9_1 : Int), v9 = .int .i64 x9_1 ∧ Aside0 (spec_l01Interpolate.l0 kq a0 l1 l2 x7_1 x8_1 x9_1 = some r) ∧ Aside0 (kq ≤ k) ∧ Aside0 (Kd.R (Kd.int .i64) 2 w' w.heap.size (fun k_ => some k_ ≠ (v8 : Value).ownBlock) v7 x7_1) ∧ Aside0 (Kd.R (Kd.int .i64) 2 w' w.heap.size (fun k_ => some k_ ≠ (v7 : Value).ownBlock) v8 x8_1) ∧ Aside0 (Below w.heap.size w w'))
 case atStart => exact ⟨(y423), (y426), (0), ea_, H', ⟨Nat.le_refl _⟩, ⟨by (with_reducible repeat (first | apply Kd.R_alloc | apply Kd.R_drewN | apply Kd.R_drew)); exact Kd.R_mono HO425.out (fun _ hk => hk.2)⟩, ⟨by (with_reducible repeat (first | apply Kd.R_alloc | apply Kd.R_drewN | apply Kd.R_drew)); exact Kd.R_mono HO428.out (fun _ hk => hk.2)⟩, ⟨bs HB⟩⟩
 case round =>
  clear H'
  try clear c1
  try clear c2
  try clear p2
  try clear c3
  obtain ⟨x7_1, x8_1, x9_1, rfl, HA, HK1, HO_7, HO_8, HB⟩ := hrel
  cases gk with
  | zero => exact absurd HA.out (by simp [spec_l01Interpolate.l0])
  | succ k1 =>
   have H := HA.out
   clear HA
   simp only [spec_l01Interpolate.l0] at H
   by_cases c8 : x9_1 < (l1.length : Int)
   ·
    rw [if_pos c8] at H
    have c8b0 : decide (x9_1 < (l1.length : Int)) = true := decide_eq_true c8
    clear c8
    by_cases c9 : 0 ≤ x9_1
    ·
     rw [if_pos c9] at H
     have c9b0 : decide (0 ≤ x9_1) = true := decide_eq_true c9
     clear c9
     by_cases c10 : x9_1 < (l2.length : Int)
     ·
      rw [if_pos c10] at H
      have c10b0 : decide (x9_1 < (l2.length : Int)) = true := decide_eq_true c10
      clear c10
      replace H := Option.bind_eq_some_iff.mp H
      obtain ⟨t431, A110, H⟩ := H
      have A11 := as0 A110
      clear A110
      replace H := Option.bind_eq_some_iff.mp H
      obtain ⟨t432, A120, H⟩ := H
      have A12 := as0 A120
      clear A120
      replace H := Option.bind_eq_some_iff.mp H
      obtain ⟨t434, A130, H⟩ := H
      have A13 := as0 A130
      clear A130
      replace H := Option.bind_eq_some_iff.mp H
      obtain ⟨t435, A140, H⟩ := H
      have A14 := as0 A140
      clear A140
      by_cases c15 : a0 = 0
      ·
       rw [if_pos c15] at H
       exact absurd H (by simp)
      ·
       rw [if_neg c15] at H
       have c15b0 : (a0 == 0) = false := beq_eq_false_iff_ne.mpr c15
       have c15b1 : (a0 != 0) = true := bne_iff_ne.mpr c15
       replace H := Option.bind_eq_some_iff.mp H
       obtain ⟨t436, A160, H⟩ := H
       have A16 := as0 A160
       clear A160
       replace H := Option.bind_eq_some_iff.mp H
       obtain ⟨t440, A170, H⟩ := H
       have A17 := as0 A170
       clear A170
       obtain ⟨y441, hy441⟩ : ∃ y_ : List Int, y_ = (([t440, 1] : List Int)) := ⟨_, rfl⟩
       replace H : ((spec_l01Times.f k1 a0 x8_1 y441).bind fun t444 => (spec_l01Interpolate.l0 k1 a0 l1 l2 t436 t444 (wrap64 (x9_1 + 1)))) = some r := by first | (rw [hy441]; with_reducible exact H) | (have H2_ := (Option.bind_some _ _).symm.trans H; rw [hy441]; with_reducible exact H2_) | (have H2_ := (Option.bind_some _ _).symm.trans H; with_reducible exact H2_) | with_reducible exact H | (rw [hy441]; exact H) | exact H
       have Ny441 := as0 hy441
       clear hy441
       replace H := Option.bind_eq_some_iff.mp H
       obtain ⟨t444, A180, H⟩ := H
       have A18 := as0 A180
       clear A180
       have H' := as0 H
       clear H
       have p429 : 0 ≤ (x9_1 : Int) := oa_
       have q429 : x9_1 < (l2.length : Int) := oa_
       obtain ⟨ad429, e429, hx429_0⟩ := Kd.at_int HR2.out x9_1 p429 q429
       cases e429
       replace hx429_0 := (HB.out.cell (World.block_lt_of_cell? w _ hx429_0)).trans hx429_0
       replace p429 := eq_true p429
       replace q429 := eq_true q429
       have p430 : 0 ≤ (x9_1 : Int) := oa_
       have q430 : x9_1 < (l1.length : Int) := oa_
       obtain ⟨ad430, e430, hx430_0⟩ := Kd.at_int HR1.out x9_1 p430 q430
       cases e430
       replace hx430_0 := (HB.out.cell (World.block_lt_of_cell? w _ hx430_0)).trans hx430_0
       replace p430 := eq_true p430
       replace q430 := eq_true q430
       obtain ⟨Ao19, co19, eo19⟩ := Kd.R_slice HO_7.out
       subst eo19
       have p433 : 0 ≤ (x9_1 : Int) := oa_
       have q433 : x9_1 < (l1.length : Int) := oa_
       obtain ⟨ad433, e433, hx433_0⟩ := Kd.at_int HR1.out x9_1 p433 q433
       obtain rfl : ad430 = ad433 := (by injection e433)
       replace hx433_0 := (HB.out.cell (World.block_lt_of_cell? w _ hx433_0)).trans hx433_0
       replace p433 := eq_true p433
       replace q433 := eq_true q433
       obtain ⟨Ao20, co20, eo20⟩ := Kd.R_slice HO_8.out
       subst eo20
       go_wp2_with (first | (go_at_call 58; (with_reducible refine (spec_l01At.calls k1 a0 _ _ x7_1 (rd l1 x9_1) t431 _ ?side1 ?side2 A11.out).mono ?_); (case side1 => exact cs ((Kd.R_reads' HO_7.out).2.2)); (case side2 => exact (Kd.R_reads' HO_7.out).2.1); rintro e w' ⟨rfl, ⟨nd, rfl⟩⟩; (try first | exact ⟨rfl, _, World.drewN_drewN _ _ _⟩ | exact ⟨rfl, _, Eq.trans (World.drewN_drewN _ _ _) (congrArg (World.drewN _) (Nat.add_assoc _ _ _))⟩)) | (go_at_call 66; (with_reducible refine (spec_l01Mod.calls a0 (wrap64 ((rd l2 x9_1) - t431)) t432 _ A12.out).mono ?_); rintro e w' ⟨rfl, ⟨nd, rfl⟩⟩; (try first | exact ⟨rfl, _, World.drewN_drewN _ _ _⟩ | exact ⟨rfl, _, Eq.trans (World.drewN_drewN _ _ _) (congrArg (World.drewN _) (Nat.add_assoc _ _ _))⟩)) | (go_at_call 58; (with_reducible refine (spec_l01At.calls k1 a0 _ _ x8_1 (rd l1 x9_1) t434 _ ?side1 ?side2 A13.out).mono ?_); (case side1 => exact cs ((Kd.R_reads' HO_8.out).2.2)); (case side2 => exact (Kd.R_reads' HO_8.out).2.1); rintro e w' ⟨rfl, ⟨nd, rfl⟩⟩; (try first | exact ⟨rfl, _, World.drewN_drewN _ _ _⟩ | exact ⟨rfl, _, Eq.trans (World.drewN_drewN _ _ _) (congrArg (World.drewN _) (Nat.add_assoc _ _ _))⟩)) | (go_at_call 67; (with_reducible refine (spec_l01Inverse.calls k1 a0 t434 t435 _ A14.out).mono ?_); rintro e w' ⟨rfl, ⟨nd, rfl⟩⟩; (try first | exact ⟨rfl, _, World.drewN_drewN _ _ _⟩ | exact ⟨rfl, _, Eq.trans (World.drewN_drewN _ _ _) (congrArg (World.drewN _) (Nat.add_assoc _ _ _))⟩)) | (go_at_call 68; (with_reducible refine (spec_l01Add.calls k1 a0 _ _ x7_1 _ _ x8_1 (Int.tmod (wrap64 (t432 * t435)) a0) t436 _ ?side1 ?side2 ?side3 ?side4 A16.out).mono ?_); (case side1 => exact cs ((Kd.R_reads' HO_7.out).2.2)); (case side2 => exact (Kd.R_reads' HO_7.out).2.1); (case side3 => exact cs ((Kd.R_reads' HO_8.out).2.2)); (case side4 => exact (Kd.R_reads' HO_8.out).2.1); rintro e w21 ⟨v437, rfl, ho0, hb⟩; have n0_ := as0 (Kd.R_elder' (rs HO_7) (Kd.R_base ho0) hb); have n1_ := as0 (Kd.R_elder' (rs HO_8) (Kd.R_base ho0) hb); have n2_ := as0 (Kd.R_lower (Kd.R_new' (Kd.R_new' ho0 (Kd.R_lt (rs HO_7))) (Kd.R_lt (rs HO_8))) (below_size (bs HB))); have n3_ := as0 (below_step (bs HB) hb); clear HO_7; clear HO_8; clear HB; have HO_7 := n0_; have HO_8 := n1_; have HO438 := n2_; have HB := n3_; clear n0_ n1_ n2_ n3_; (try clear hb); (try clear hb2); (try clear hk); (try clear hi); (try clear ho0); have p439 : 0 ≤ (x9_1 : Int) := oa_; have q439 : x9_1 < (l1.length : Int) := oa_; obtain ⟨ad439, e439, hx439_0⟩ := Kd.at_int HR1.out x9_1 p439 q439; obtain rfl : ad430 = ad439 := (by injection e439); replace hx439_0 := (HB.out.cell (World.block_lt_of_cell? w _ hx439_0)).trans hx439_0; replace p439 := eq_true p439; replace q439 := eq_true q439) | (go_at_call 66; (with_reducible refine (spec_l01Mod.calls a0 (wrap64 (-(rd l1 x9_1))) t440 _ A17.out).mono ?_); rintro e w' ⟨rfl, ⟨nd, rfl⟩⟩; (try first | exact ⟨rfl, _, World.drewN_drewN _ _ _⟩ | exact ⟨rfl, _, Eq.trans (World.drewN_drewN _ _ _) (congrArg (World.drewN _) (Nat.add_assoc _ _ _))⟩)) | ((with_reducible refine gate_dst (N := 59) rfl ?_); refine Kd.R_lit (Kd.int .i64) _ 2 ?hg (N := 59) ?hd (xs := ([t440, 1] : List Int)) (inner := [.int .i64 t440, .int .i64 1]) (ok := fun _ => True) (okp := fun _ => True) ?hr ?hp (fun _ hk => hk) trivial (Below.refl _ _) (Nat.le_refl _) (by simp) ?_; (case hd => rfl); (case hg => rfl); (case hr => first | (go_simp; done) | (go_simp; rfl)); (case hp => exact (Reps.one (show Kd.M (Kd.int .i64) _ _ _ t440 [.int .i64 t440] from rfl) (Reps.one (show Kd.M (Kd.int .i64) _ _ _ 1 [.int .i64 1] from rfl) (Reps.none _ _)))); intro v442 w22 ho23 hb hg_ hnew_; clear hg_ hnew_; (first | rw [← Ny441.out] at ho23 | (simp only [Int.reduceToNat] at ho23; rw [← Ny441.out] at ho23)); have n0_ := as0 (Kd.R_elder' (rs HO_7) (Kd.R_base ho23) hb); have n1_ := as0 (Kd.R_elder' (rs HO_8) (Kd.R_base ho23) hb); have n2_ := as0 (Kd.R_elder' (rs HO438) (Kd.R_base ho23) hb); have n3_ := as0 (Kd.R_lower (Kd.R_new' (Kd.R_new' (Kd.R_new' ho23 (Kd.R_lt (rs HO_7))) (Kd.R_lt (rs HO_8))) (Kd.R_lt (rs HO438))) (below_size (bs HB))); have n4_ := as0 (below_step (bs HB) hb); clear HO_7; clear HO_8; clear HO438; clear HB; have HO_7 := n0_; have HO_8 := n1_; have HO438 := n2_; have HO443 := n3_; have HB := n4_; clear n0_ n1_ n2_ n3_ n4_; clear hb ho23; obtain ⟨Ao24, co24, eo24⟩ := Kd.R_slice HO443.out; subst eo24) | (go_at_call 69; (with_reducible refine (spec_l01Times.calls k1 a0 _ _ x8_1 _ _ y441 t444 _ ?side1 ?side2 ?side3 ?side4 A18.out).mono ?_); (case side1 => exact cs ((Kd.R_reads' HO_8.out).2.2)); (case side2 => exact (Kd.R_reads' HO_8.out).2.1); (case side3 => exact cs ((Kd.R_reads' HO443.out).2.2)); (case side4 => exact (Kd.R_reads' HO443.out).2.1); rintro e w25 ⟨v445, rfl, ho0, hb⟩; have n0_ := as0 (Kd.R_elder' (rs HO_7) (Kd.R_base ho0) hb); have n1_ := as0 (Kd.R_elder' (rs HO_8) (Kd.R_base ho0) hb); have n2_ := as0 (Kd.R_elder' (rs HO438) (Kd.R_base ho0) hb); have n3_ := as0 (Kd.R_elder' (rs HO443) (Kd.R_base ho0) hb); have n4_ := as0 (Kd.R_lower (Kd.R_new' (Kd.R_new' (Kd.R_new' (Kd.R_new' ho0 (Kd.R_lt (rs HO_7))) (Kd.R_lt (rs HO_8))) (Kd.R_lt (rs HO438))) (Kd.R_lt (rs HO443))) (below_size (bs HB))); have n5_ := as0 (below_step (bs HB) hb); clear HO_7; clear HO_8; clear HO438; clear HO443; clear HB; have HO_7 := n0_; have HO_8 := n1_; have HO438 := n2_; have HO443 := n3_; have HO446 := n4_; have HB := n5_; clear n0_ n1_ n2_ n3_ n4_ n5_; (try clear hb); (try clear hb2); (try clear hk); (try clear hi); (try clear ho0)))
       repeat (go_quiet (first | (go_at_call 58; (with_reducible refine (spec_l01At.calls k1 a0 _ _ x7_1 (rd l1 x9_1) t431 _ ?side1 ?side2 A11.out).mono ?_); (case side1 => exact cs ((Kd.R_reads' HO_7.out).2.2)); (case side2 => exact (Kd.R_reads' HO_7.out).2.1); rintro e w' ⟨rfl, ⟨nd, rfl⟩⟩; (try first | exact ⟨rfl, _, World.drewN_drewN _ _ _⟩ | exact ⟨rfl, _, Eq.trans (World.drewN_drewN _ _ _) (congrArg (World.drewN _) (Nat.add_assoc _ _ _))⟩)) | (go_at_call 66; (with_reducible refine (spec_l01Mod.calls a0 (wrap64 ((rd l2 x9_1) - t431)) t432 _ A12.out).mono ?_); rintro e w' ⟨rfl, ⟨nd, rfl⟩⟩; (try first | exact ⟨rfl, _, World.drewN_drewN _ _ _⟩ | exact ⟨rfl, _, Eq.trans (World.drewN_drewN _ _ _) (congrArg (World.drewN _) (Nat.add_assoc _ _ _))⟩)) | (go_at_call 58; (with_reducible refine (spec_l01At.calls k1 a0 _ _ x8_1 (rd l1 x9_1) t434 _ ?side1 ?side2 A13.out).mono ?_); (case side1 => exact cs ((Kd.R_reads' HO_8.out).2.2)); (case side2 => exact (Kd.R_reads' HO_8.out).2.1); rintro e w' ⟨rfl, ⟨nd, rfl⟩⟩; (try first | exact ⟨rfl, _, World.drewN_drewN _ _ _⟩ | exact ⟨rfl, _, Eq.trans (World.drewN_drewN _ _ _) (congrArg (World.drewN _) (Nat.add_assoc _ _ _))⟩)) | (go_at_call 67; (with_reducible refine (spec_l01Inverse.calls k1 a0 t434 t435 _ A14.out).mono ?_); rintro e w' ⟨rfl, ⟨nd, rfl⟩⟩; (try first | exact ⟨rfl, _, World.drewN_drewN _ _ _⟩ | exact ⟨rfl, _, Eq.trans (World.drewN_drewN _ _ _) (congrArg (World.drewN _) (Nat.add_assoc _ _ _))⟩)) | (go_at_call 68; (with_reducible refine (spec_l01Add.calls k1 a0 _ _ x7_1 _ _ x8_1 (Int.tmod (wrap64 (t432 * t435)) a0) t436 _ ?side1 ?side2 ?side3 ?side4 A16.out).mono ?_); (case side1 => exact cs ((Kd.R_reads' HO_7.out).2.2)); (case side2 => exact (Kd.R_reads' HO_7.out).2.1); (case side3 => exact cs ((Kd.R_reads' HO_8.out).2.2)); (case side4 => exact (Kd.R_reads' HO_8.out).2.1); rintro e w21 ⟨v437, rfl, ho0, hb⟩; have n0_ := as0 (Kd.R_elder' (rs HO_7) (Kd.R_base ho0) hb); have n1_ := as0 (Kd.R_elder' (rs HO_8) (Kd.R_base ho0) hb); have n2_ := as0 (Kd.R_lower (Kd.R_new' (Kd.R_new' ho0 (Kd.R_lt (rs HO_7))) (Kd.R_lt (rs HO_8))) (below_size (bs HB))); have n3_ := as0 (below_step (bs HB) hb); clear HO_7; clear HO_8; clear HB; have HO_7 := n0_; have HO_8 := n1_; have HO438 := n2_; have HB := n3_; clear n0_ n1_ n2_ n3_; (try clear hb); (try clear hb2); (try clear hk); (try clear hi); (try clear ho0); have p439 : 0 ≤ (x9_1 : Int) := oa_; have q439 : x9_1 < (l1.length : Int) := oa_; obtain ⟨ad439, e439, hx439_0⟩ := Kd.at_int HR1.out x9_1 p439 q439; obtain rfl : ad430 = ad439 := (by injection e439); replace hx439_0 := (HB.out.cell (World.block_lt_of_cell? w _ hx439_0)).trans hx439_0; replace p439 := eq_true p439; replace q439 := eq_true q439) | (go_at_call 66; (with_reducible refine (spec_l01Mod.calls a0 (wrap64 (-(rd l1 x9_1))) t440 _ A17.out).mono ?_); rintro e w' ⟨rfl, ⟨nd, rfl⟩⟩; (try first | exact ⟨rfl, _, World.drewN_drewN _ _ _⟩ | exact ⟨rfl, _, Eq.trans (World.drewN_drewN _ _ _) (congrArg (World.drewN _) (Nat.add_assoc _ _ _))⟩)) | ((with_reducible refine gate_dst (N := 59) rfl ?_); refine Kd.R_lit (Kd.int .i64) _ 2 ?hg (N := 59) ?hd (xs := ([t440, 1] : List Int)) (inner := [.int .i64 t440, .int .i64 1]) (ok := fun _ => True) (okp := fun _ => True) ?hr ?hp (fun _ hk => hk) trivial (Below.refl _ _) (Nat.le_refl _) (by simp) ?_; (case hd => rfl); (case hg => rfl); (case hr => first | (go_simp; done) | (go_simp; rfl)); (case hp => exact (Reps.one (show Kd.M (Kd.int .i64) _ _ _ t440 [.int .i64 t440] from rfl) (Reps.one (show Kd.M (Kd.int .i64) _ _ _ 1 [.int .i64 1] from rfl) (Reps.none _ _)))); intro v442 w22 ho23 hb hg_ hnew_; clear hg_ hnew_; (first | rw [← Ny441.out] at ho23 | (simp only [Int.reduceToNat] at ho23; rw [← Ny441.out] at ho23)); have n0_ := as0 (Kd.R_elder' (rs HO_7) (Kd.R_base ho23) hb); have n1_ := as0 (Kd.R_elder' (rs HO_8) (Kd.R_base ho23) hb); have n2_ := as0 (Kd.R_elder' (rs HO438) (Kd.R_base ho23) hb); have n3_ := as0 (Kd.R_lower (Kd.R_new' (Kd.R_new' (Kd.R_new' ho23 (Kd.R_lt (rs HO_7))) (Kd.R_lt (rs HO_8))) (Kd.R_lt (rs HO438))) (below_size (bs HB))); have n4_ := as0 (below_step (bs HB) hb); clear HO_7; clear HO_8; clear HO438; clear HB; have HO_7 := n0_; have HO_8 := n1_; have HO438 := n2_; have HO443 := n3_; have HB := n4_; clear n0_ n1_ n2_ n3_ n4_; clear hb ho23; obtain ⟨Ao24, co24, eo24⟩ := Kd.R_slice HO443.out; subst eo24) | (go_at_call 69; (with_reducible refine (spec_l01Times.calls k1 a0 _ _ x8_1 _ _ y441 t444 _ ?side1 ?side2 ?side3 ?side4 A18.out).mono ?_); (case side1 => exact cs ((Kd.R_reads' HO_8.out).2.2)); (case side2 => exact (Kd.R_reads' HO_8.out).2.1); (case side3 => exact cs ((Kd.R_reads' HO443.out).2.2)); (case side4 => exact (Kd.R_reads' HO443.out).2.1); rintro e w25 ⟨v445, rfl, ho0, hb⟩; have n0_ := as0 (Kd.R_elder' (rs HO_7) (Kd.R_base ho0) hb); have n1_ := as0 (Kd.R_elder' (rs HO_8) (Kd.R_base ho0) hb); have n2_ := as0 (Kd.R_elder' (rs HO438) (Kd.R_base ho0) hb); have n3_ := as0 (Kd.R_elder' (rs HO443) (Kd.R_base ho0) hb); have n4_ := as0 (Kd.R_lower (Kd.R_new' (Kd.R_new' (Kd.R_new' (Kd.R_new' ho0 (Kd.R_lt (rs HO_7))) (Kd.R_lt (rs HO_8))) (Kd.R_lt (rs HO438))) (Kd.R_lt (rs HO443))) (below_size (bs HB))); have n5_ := as0 (below_step (bs HB) hb); clear HO_7; clear HO_8; clear HO438; clear HO443; clear HB; have HO_7 := n0_; have HO_8 := n1_; have HO438 := n2_; have HO443 := n3_; have HO446 := n4_; have HB := n5_; clear n0_ n1_ n2_ n3_ n4_ n5_; (try clear hb); (try clear hb2); (try clear hk); (try clear hi); (try clear ho0))); try go_wp2_with (first | (go_at_call 58; (with_reducible refine (spec_l01At.calls k1 a0 _ _ x7_1 (rd l1 x9_1) t431 _ ?side1 ?side2 A11.out).mono ?_); (case side1 => exact cs ((Kd.R_reads' HO_7.out).2.2)); (case side2 => exact (Kd.R_reads' HO_7.out).2.1); rintro e w' ⟨rfl, ⟨nd, rfl⟩⟩; (try first | exact ⟨rfl, _, World.drewN_drewN _ _ _⟩ | exact ⟨rfl, _, Eq.trans (World.drewN_drewN _ _ _) (congrArg (World.drewN _) (Nat.add_assoc _ _ _))⟩)) | (go_at_call 66; (with_reducible refine (spec_l01Mod.calls a0 (wrap64 ((rd l2 x9_1) - t431)) t432 _ A12.out).mono ?_); rintro e w' ⟨rfl, ⟨nd, rfl⟩⟩; (try first | exact ⟨rfl, _, World.drewN_drewN _ _ _⟩ | exact ⟨rfl, _, Eq.trans (World.drewN_drewN _ _ _) (congrArg (World.drewN _) (Nat.add_assoc _ _ _))⟩)) | (go_at_call 58; (with_reducible refine (spec_l01At.calls k1 a0 _ _ x8_1 (rd l1 x9_1) t434 _ ?side1 ?side2 A13.out).mono ?_); (case side1 => exact cs ((Kd.R_reads' HO_8.out).2.2)); (case side2 => exact (Kd.R_reads' HO_8.out).2.1); rintro e w' ⟨rfl, ⟨nd, rfl⟩⟩; (try first | exact ⟨rfl, _, World.drewN_drewN _ _ _⟩ | exact ⟨rfl, _, Eq.trans (World.drewN_drewN _ _ _) (congrArg (World.drewN _) (Nat.add_assoc _ _ _))⟩)) | (go_at_call 67; (with_reducible refine (spec_l01Inverse.calls k1 a0 t434 t435 _ A14.out).mono ?_); rintro e w' ⟨rfl, ⟨nd, rfl⟩⟩; (try first | exact ⟨rfl, _, World.drewN_drewN _ _ _⟩ | exact ⟨rfl, _, Eq.trans (World.drewN_drewN _ _ _) (congrArg (World.drewN _) (Nat.add_assoc _ _ _))⟩)) | (go_at_call 68; (with_reducible refine (spec_l01Add.calls k1 a0 _ _ x7_1 _ _ x8_1 (Int.tmod (wrap64 (t432 * t435)) a0) t436 _ ?side1 ?side2 ?side3 ?side4 A16.out).mono ?_); (case side1 => exact cs ((Kd.R_reads' HO_7.out).2.2)); (case side2 => exact (Kd.R_reads' HO_7.out).2.1); (case side3 => exact cs ((Kd.R_reads' HO_8.out).2.2)); (case side4 => exact (Kd.R_reads' HO_8.out).2.1); rintro e w21 ⟨v437, rfl, ho0, hb⟩; have n0_ := as0 (Kd.R_elder' (rs HO_7) (Kd.R_base ho0) hb); have n1_ := as0 (Kd.R_elder' (rs HO_8) (Kd.R_base ho0) hb); have n2_ := as0 (Kd.R_lower (Kd.R_new' (Kd.R_new' ho0 (Kd.R_lt (rs HO_7))) (Kd.R_lt (rs HO_8))) (below_size (bs HB))); have n3_ := as0 (below_step (bs HB) hb); clear HO_7; clear HO_8; clear HB; have HO_7 := n0_; have HO_8 := n1_; have HO438 := n2_; have HB := n3_; clear n0_ n1_ n2_ n3_; (try clear hb); (try clear hb2); (try clear hk); (try clear hi); (try clear ho0); have p439 : 0 ≤ (x9_1 : Int) := oa_; have q439 : x9_1 < (l1.length : Int) := oa_; obtain ⟨ad439, e439, hx439_0⟩ := Kd.at_int HR1.out x9_1 p439 q439; obtain rfl : ad430 = ad439 := (by injection e439); replace hx439_0 := (HB.out.cell (World.block_lt_of_cell? w _ hx439_0)).trans hx439_0; replace p439 := eq_true p439; replace q439 := eq_true q439) | (go_at_call 66; (with_reducible refine (spec_l01Mod.calls a0 (wrap64 (-(rd l1 x9_1))) t440 _ A17.out).mono ?_); rintro e w' ⟨rfl, ⟨nd, rfl⟩⟩; (try first | exact ⟨rfl, _, World.drewN_drewN _ _ _⟩ | exact ⟨rfl, _, Eq.trans (World.drewN_drewN _ _ _) (congrArg (World.drewN _) (Nat.add_assoc _ _ _))⟩)) | ((with_reducible refine gate_dst (N := 59) rfl ?_); refine Kd.R_lit (Kd.int .i64) _ 2 ?hg (N := 59) ?hd (xs := ([t440, 1] : List Int)) (inner := [.int .i64 t440, .int .i64 1]) (ok := fun _ => True) (okp := fun _ => True) ?hr ?hp (fun _ hk => hk) trivial (Below.refl _ _) (Nat.le_refl _) (by simp) ?_; (case hd => rfl); (case hg => rfl); (case hr => first | (go_simp; done) | (go_simp; rfl)); (case hp => exact (Reps.one (show Kd.M (Kd.int .i64) _ _ _ t440 [.int .i64 t440] from rfl) (Reps.one (show Kd.M (Kd.int .i64) _ _ _ 1 [.int .i64 1] from rfl) (Reps.none _ _)))); intro v442 w22 ho23 hb hg_ hnew_; clear hg_ hnew_; (first | rw [← Ny441.out] at ho23 | (simp only [Int.reduceToNat] at ho23; rw [← Ny441.out] at ho23)); have n0_ := as0 (Kd.R_elder' (rs HO_7) (Kd.R_base ho23) hb); have n1_ := as0 (Kd.R_elder' (rs HO_8) (Kd.R_base ho23) hb); have n2_ := as0 (Kd.R_elder' (rs HO438) (Kd.R_base ho23) hb); have n3_ := as0 (Kd.R_lower (Kd.R_new' (Kd.R_new' (Kd.R_new' ho23 (Kd.R_lt (rs HO_7))) (Kd.R_lt (rs HO_8))) (Kd.R_lt (rs HO438))) (below_size (bs HB))); have n4_ := as0 (below_step (bs HB) hb); clear HO_7; clear HO_8; clear HO438; clear HB; have HO_7 := n0_; have HO_8 := n1_; have HO438 := n2_; have HO443 := n3_; have HB := n4_; clear n0_ n1_ n2_ n3_ n4_; clear hb ho23; obtain ⟨Ao24, co24, eo24⟩ := Kd.R_slice HO443.out; subst eo24) | (go_at_call 69; (with_reducible refine (spec_l01Times.calls k1 a0 _ _ x8_1 _ _ y441 t444 _ ?side1 ?side2 ?side3 ?side4 A18.out).mono ?_); (case side1 => exact cs ((Kd.R_reads' HO_8.out).2.2)); (case side2 => exact (Kd.R_reads' HO_8.out).2.1); (case side3 => exact cs ((Kd.R_reads' HO443.out).2.2)); (case side4 => exact (Kd.R_reads' HO443.out).2.1); rintro e w25 ⟨v445, rfl, ho0, hb⟩; have n0_ := as0 (Kd.R_elder' (rs HO_7) (Kd.R_base ho0) hb); have n1_ := as0 (Kd.R_elder' (rs HO_8) (Kd.R_base ho0) hb); have n2_ := as0 (Kd.R_elder' (rs HO438) (Kd.R_base ho0) hb); have n3_ := as0 (Kd.R_elder' (rs HO443) (Kd.R_base ho0) hb); have n4_ := as0 (Kd.R_lower (Kd.R_new' (Kd.R_new' (Kd.R_new' (Kd.R_new' ho0 (Kd.R_lt (rs HO_7))) (Kd.R_lt (rs HO_8))) (Kd.R_lt (rs HO438))) (Kd.R_lt (rs HO443))) (below_size (bs HB))); have n5_ := as0 (below_step (bs HB) hb); clear HO_7; clear HO_8; clear HO438; clear HO443; clear HB; have HO_7 := n0_; have HO_8 := n1_; have HO438 := n2_; have HO443 := n3_; have HO446 := n4_; have HB := n5_; clear n0_ n1_ n2_ n3_ n4_ n5_; (try clear hb); (try clear hb2); (try clear hk); (try clear hi); (try clear ho0))))
       go_roundg k1
       case measure => have := HK1.out; omega
       case rel => exact ⟨(t436), (t444), (wrap64 (x9_1 + 1)), ea_, H', ⟨by have := HK1.out; omega⟩, ⟨by (with_reducible repeat (first | apply Kd.R_alloc | apply Kd.R_drewN | apply Kd.R_drew)); exact Kd.R_mono HO438.out (fun _ hk => hk.2)⟩, ⟨by (with_reducible repeat (first | apply Kd.R_alloc | apply Kd.R_drewN | apply Kd.R_drew)); exact Kd.R_mono HO446.out (fun _ hk => hk.1.2)⟩, ⟨bs HB⟩⟩
     ·
      rw [if_neg c10] at H
      exact absurd H (by simp)
    ·
     rw [if_neg c9] at H
     exact absurd H (by simp)
   ·
    rw [if_neg c8] at H
    have c8b0 : decide (x9_1 < (l1.length : Int)) = false := decide_eq_false c8
    clear c8
    obtain rfl := Option.some.inj H
    go_wp2
    repeat (go_quiet (fail); try go_wp2)
    go_ret
    exact ⟨_, er_, by (with_reducible repeat (first | apply Kd.R_alloc | apply Kd.R_drewN | apply Kd.R_drew)); exact Kd.R_mono HO_7.out (fun _ hk => trivial), bs HB⟩
def spec_l01In.f (a0 : Int) (a1 : Int) (a2 : Int) : Option (Bool) := if a0 ≥ a1 then (some (decide (a0 ≤ a2))) else (some false)
set_option maxHeartbeats 8000000 in
set_option maxRecDepth 100000 in
theorem spec_l01In.calls (a0 : Int) (a1 : Int) (a2 : Int) (r : Bool) (w : World) (h : spec_l01In.f a0 a1 a2 = some r) :
  Calls Tryz.prog 43 #[.int .i64 a0, .int .i64 a1, .int .i64 a2] w fun e w' => e = .returned (.bool r) ∧ Drawn0 w w' := by
 have H : (if a0 ≥ a1 then (some (decide (a0 ≤ a2))) else (some false)) = some r := h
 clear h
 by_cases c4 : a0 ≥ a1
 ·
  rw [if_pos c4] at H
  have c4b0 : decide (a1 ≤ a0) = true := decide_eq_true c4
  clear c4
  obtain rfl := Option.some.inj H
  go_enter Tryz.func43, Tryz.ntmps43
  go_wp2
  go_ret
  exact ⟨ea_, dr_⟩
 ·
  rw [if_neg c4] at H
  have c4b0 : decide (a1 ≤ a0) = false := decide_eq_false c4
  clear c4
  obtain rfl := Option.some.inj H
  go_enter Tryz.func43, Tryz.ntmps43
  go_wp2
  go_ret
  exact ⟨ea_, dr_⟩
mutual
def spec_l01Points.l0 : Nat → Int → List Int → Bool → Int → Option (Bool)
 | 0, _, _, _, _ => none
 | k + 1, x0, x1, x2, x7 => if x7 < (x1.length : Int) then (if 0 ≤ x7 then ((spec_l01In.f (rd x1 x7) 0 (wrap64 (x0 - 1))).bind fun t374 => (if t374 = true then (spec_l01Points.l1 k x0 x1 x2 x7 0) else (some false))) else (none)) else (some true)
def spec_l01Points.l1 : Nat → Int → List Int → Bool → Int → Int → Option (Bool)
 | 0, _, _, _, _, _ => none
 | k + 1, x0, x1, x2, x7, x8 => if x8 < x7 then (spec_l01Points.j2 k x0 x1 x2 x7 x8 x2) else (spec_l01Points.j2 k x0 x1 x2 x7 x8 false)
def spec_l01Points.j2 : Nat → Int → List Int → Bool → Int → Int → Bool → Option (Bool)
 | 0, _, _, _, _, _, _ => none
 | k + 1, x0, x1, x2, x7, x8, x28 => if x28 = true then (if 0 ≤ x8 then (if x8 < (x1.length : Int) then (if 0 ≤ x7 then (if x7 < (x1.length : Int) then (if (rd x1 x8) = (rd x1 x7) then (some false) else (spec_l01Points.l1 k x0 x1 x2 x7 (wrap64 (x8 + 1)))) else (none)) else (none)) else (none)) else (none)) else (spec_l01Points.l0 k x0 x1 x2 (wrap64 (x7 + 1)))
end
def spec_l01Points.f (k : Nat) (a0 : Int) (l1 : List Int) (a2 : Bool) : Option (Bool) := spec_l01Points.l0 k a0 l1 a2 0
set_option maxHeartbeats 8000000 in
set_option maxRecDepth 100000 in
theorem spec_l01Points.calls (k : Nat) (a0 : Int) (A1 : Option Addr) (c1 : Nat) (l1 : List Int) (a2 : Bool) (r : Bool) (w : World) (hr1 : Kd.C (Kd.int .i64) w A1 l1.length l1) (hc1 : l1.length ≤ c1) (h : spec_l01Points.f k a0 l1 a2 = some r) :
  Calls Tryz.prog 32 #[.int .i64 a0, .slice A1 l1.length c1, .bool a2] w fun e w' => e = .returned (.bool r) ∧ Drawn0 w w' := by
 have HR1 := as0 hr1
 have HC1 := as0 hc1
 clear hr1 hc1
 have H : (spec_l01Points.l0 k a0 l1 a2 0) = some r := h
 clear h
 have H' := as0 H
 clear H
 go_enter Tryz.func32, Tryz.ntmps32
 go_wp2
 repeat (go_quiet (fail); try go_wp2)
 go_loopg [7] k (fun kq v7 w' => ∃ (x7_1 : Int), v7 = .int .i64 x7_1 ∧ Aside0 (spec_l01Points.l0 kq a0 l1 a2 x7_1 = some r) ∧ Aside0 (kq ≤ k) ∧ Drawn0 w w')
 case atStart => exact ⟨(0), ea_, H', ⟨Nat.le_refl _⟩, dr_⟩
 case round =>
  clear H'
  try clear c1
  try clear p2
  try clear c3
  obtain ⟨x7_1, rfl, HA, HK1, ⟨m1, rfl⟩⟩ := hrel
  cases gk with
  | zero => exact absurd HA.out (by simp [spec_l01Points.l0])
  | succ k1 =>
   have H := HA.out
   clear HA
   simp only [spec_l01Points.l0] at H
   by_cases c4 : x7_1 < (l1.length : Int)
   ·
    rw [if_pos c4] at H
    have c4b0 : decide (x7_1 < (l1.length : Int)) = true := decide_eq_true c4
    clear c4
    by_cases c5 : 0 ≤ x7_1
    ·
     rw [if_pos c5] at H
     have c5b0 : decide (0 ≤ x7_1) = true := decide_eq_true c5
     clear c5
     replace H := Option.bind_eq_some_iff.mp H
     obtain ⟨t374, A60, H⟩ := H
     have A6 := as0 A60
     clear A60
     by_cases c7 : t374 = true
     ·
      subst c7
      have H1 : (spec_l01Points.l1 k1 a0 l1 a2 x7_1 0) = some r := by rw [if_pos rfl] at H; exact H
      clear H
      have H := H1
      clear H1
      have H' := as0 H
      clear H
      have p373 : 0 ≤ (x7_1 : Int) := oa_
      have q373 : x7_1 < (l1.length : Int) := oa_
      obtain ⟨ad373, e373, hx373_0⟩ := Kd.at_int HR1.out x7_1 p373 q373
      cases e373
      replace p373 := eq_true p373
      replace q373 := eq_true q373
      go_wp2_with (first | (go_at_call 43; (with_reducible refine (spec_l01In.calls (rd l1 x7_1) 0 (wrap64 (a0 - 1)) true _ A6.out).mono ?_); rintro e w' ⟨rfl, ⟨nd, rfl⟩⟩; (try first | exact ⟨rfl, _, World.drewN_drewN _ _ _⟩ | exact ⟨rfl, _, Eq.trans (World.drewN_drewN _ _ _) (congrArg (World.drewN _) (Nat.add_assoc _ _ _))⟩)))
      repeat (go_quiet (first | (go_at_call 43; (with_reducible refine (spec_l01In.calls (rd l1 x7_1) 0 (wrap64 (a0 - 1)) true _ A6.out).mono ?_); rintro e w' ⟨rfl, ⟨nd, rfl⟩⟩; (try first | exact ⟨rfl, _, World.drewN_drewN _ _ _⟩ | exact ⟨rfl, _, Eq.trans (World.drewN_drewN _ _ _) (congrArg (World.drewN _) (Nat.add_assoc _ _ _))⟩))); try go_wp2_with (first | (go_at_call 43; (with_reducible refine (spec_l01In.calls (rd l1 x7_1) 0 (wrap64 (a0 - 1)) true _ A6.out).mono ?_); rintro e w' ⟨rfl, ⟨nd, rfl⟩⟩; (try first | exact ⟨rfl, _, World.drewN_drewN _ _ _⟩ | exact ⟨rfl, _, Eq.trans (World.drewN_drewN _ _ _) (congrArg (World.drewN _) (Nat.add_assoc _ _ _))⟩))))
      go_loopg [8] k1 (fun kq v8 w' => ∃ (x8_2 : Int), v8 = .int .i64 x8_2 ∧ Aside0 (spec_l01Points.l1 kq a0 l1 a2 x7_1 x8_2 = some r) ∧ Aside0 (kq ≤ k1) ∧ Drawn0 w w')
      case atStart => exact ⟨(0), ea_, H', ⟨Nat.le_refl _⟩, dr_⟩
      case round =>
       clear H'
       try clear c1
       try clear p2
       try clear c3
       try clear p3
       try clear q3
       try clear hx3
       try clear c4
       try clear c4b0
       try clear c5
       try clear c5b0
       try clear p6
       try clear c7
       try clear hx373_0
       try clear p2
       try clear p373
       try clear q373
       obtain ⟨x8_2, rfl, HA, HK2, ⟨m2, rfl⟩⟩ := hrel
       cases gk with
       | zero => exact absurd HA.out (by simp [spec_l01Points.l1])
       | succ k2 =>
        have H := HA.out
        clear HA
        simp only [spec_l01Points.l1] at H
        have HC8 := as0 H
        clear H
        go_upto_region 7 with (fail)
        repeat (go_quiet (fail); go_upto_region 7 with (fail))
        go_cut [28] (fun v28 wc => ∃ (kq : Nat) (x28_7 : Bool), v28 = .bool x28_7 ∧ Aside0 (spec_l01Points.j2 kq a0 l1 a2 x7_1 x8_2 x28_7 = some r) ∧ Aside0 (kq ≤ k2) ∧ Drawn0 w wc)
        case first =>
         have H := HC8.out
         clear HC8
         by_cases c9 : x8_2 < x7_1
         ·
          rw [if_pos c9] at H
          have c9b0 : decide (x8_2 < x7_1) = true := decide_eq_true c9
          clear c9
          (first | rw [c9b0] | (simp only [i64_w, i32_w]; rw [c9b0]) | skip)
          have H' := as0 H
          clear H
          go_wp2
          repeat (go_quiet (fail); try go_wp2)
          go_meet
          case rel => exact ⟨_, (a2), ea_, H', ⟨by have := HK1.out; have := HK2.out; first | omega | exact Nat.le_refl _⟩, dr_⟩
         ·
          rw [if_neg c9] at H
          have c9b0 : decide (x8_2 < x7_1) = false := decide_eq_false c9
          clear c9
          (first | rw [c9b0] | (simp only [i64_w, i32_w]; rw [c9b0]) | skip)
          have H' := as0 H
          clear H
          go_wp2
          repeat (go_quiet (fail); try go_wp2)
          go_meet
          case rel => exact ⟨_, (false), ea_, H', ⟨by have := HK1.out; have := HK2.out; first | omega | exact Nat.le_refl _⟩, dr_⟩
        case rest =>
         clear HC8
         try clear c1
         try clear p2
         try clear c3
         try clear p3
         try clear q3
         try clear hx3
         try clear c4
         try clear c4b0
         try clear c5
         try clear c5b0
         try clear p6
         try clear c7
         try clear c9
         try clear c9b0
         try clear hx373_0
         try clear p2
         try clear p3
         try clear p373
         try clear p6
         try clear q3
         try clear q373
         obtain ⟨kq, x28_7, rfl, HA, HJ7, ⟨mc7, rfl⟩⟩ := hcut
         cases kq with
         | zero => exact absurd HA.out (by simp [spec_l01Points.j2])
         | succ kj7 =>
          have H := HA.out
          clear HA
          simp only [spec_l01Points.j2] at H
          by_cases c10 : x28_7 = true
          ·
           subst c10
           have H1 : (if 0 ≤ x8_2 then (if x8_2 < (l1.length : Int) then (if 0 ≤ x7_1 then (if x7_1 < (l1.length : Int) then (if (rd l1 x8_2) = (rd l1 x7_1) then (some false) else (spec_l01Points.l1 kj7 a0 l1 a2 x7_1 (wrap64 (x8_2 + 1)))) else (none)) else (none)) else (none)) else (none)) = some r := by rw [if_pos rfl] at H; exact H
           clear H
           have H := H1
           clear H1
           by_cases c11 : 0 ≤ x8_2
           ·
            rw [if_pos c11] at H
            have c11b0 : decide (0 ≤ x8_2) = true := decide_eq_true c11
            clear c11
            by_cases c12 : x8_2 < (l1.length : Int)
            ·
             rw [if_pos c12] at H
             have c12b0 : decide (x8_2 < (l1.length : Int)) = true := decide_eq_true c12
             clear c12
             by_cases c13 : 0 ≤ x7_1
             ·
              rw [if_pos c13] at H
              have c13b0 : decide (0 ≤ x7_1) = true := decide_eq_true c13
              clear c13
              by_cases c14 : x7_1 < (l1.length : Int)
              ·
               rw [if_pos c14] at H
               have c14b0 : decide (x7_1 < (l1.length : Int)) = true := decide_eq_true c14
               clear c14
               by_cases c15 : (rd l1 x8_2) = (rd l1 x7_1)
               ·
                rw [if_pos c15] at H
                have c15b0 : ((rd l1 x8_2) == (rd l1 x7_1)) = true := beq_iff_eq.mpr c15
                have c15b1 : ((rd l1 x8_2) != (rd l1 x7_1)) = false := bne_eq_false_iff_eq.mpr c15
                clear c15
                obtain rfl := Option.some.inj H
                have p375 : 0 ≤ (x8_2 : Int) := oa_
                have q375 : x8_2 < (l1.length : Int) := oa_
                obtain ⟨ad375, e375, hx375_0⟩ := Kd.at_int HR1.out x8_2 p375 q375
                obtain rfl : ad373 = ad375 := (by injection e375)
                replace p375 := eq_true p375
                replace q375 := eq_true q375
                have p376 : 0 ≤ (x7_1 : Int) := oa_
                have q376 : x7_1 < (l1.length : Int) := oa_
                obtain ⟨ad376, e376, hx376_0⟩ := Kd.at_int HR1.out x7_1 p376 q376
                obtain rfl : ad373 = ad376 := (by injection e376)
                replace p376 := eq_true p376
                replace q376 := eq_true q376
                go_wp2
                repeat (go_quiet (fail); try go_wp2)
                go_ret
                exact ⟨ea_, dr_⟩
               ·
                rw [if_neg c15] at H
                have c15b0 : ((rd l1 x8_2) == (rd l1 x7_1)) = false := beq_eq_false_iff_ne.mpr c15
                have c15b1 : ((rd l1 x8_2) != (rd l1 x7_1)) = true := bne_iff_ne.mpr c15
                have H' := as0 H
                clear H
                have p375 : 0 ≤ (x8_2 : Int) := oa_
                have q375 : x8_2 < (l1.length : Int) := oa_
                obtain ⟨ad375, e375, hx375_0⟩ := Kd.at_int HR1.out x8_2 p375 q375
                obtain rfl : ad373 = ad375 := (by injection e375)
                replace p375 := eq_true p375
                replace q375 := eq_true q375
                have p376 : 0 ≤ (x7_1 : Int) := oa_
                have q376 : x7_1 < (l1.length : Int) := oa_
                obtain ⟨ad376, e376, hx376_0⟩ := Kd.at_int HR1.out x7_1 p376 q376
                obtain rfl : ad373 = ad376 := (by injection e376)
                replace p376 := eq_true p376
                replace q376 := eq_true q376
                go_wp2
                repeat (go_quiet (fail); try go_wp2)
                go_roundg kj7
                case measure => have := HK1.out; have := HK2.out; have := HJ7.out; omega
                case rel => exact ⟨(wrap64 (x8_2 + 1)), ea_, H', ⟨by have := HK1.out; have := HK2.out; have := HJ7.out; omega⟩, dr_⟩
              ·
               rw [if_neg c14] at H
               exact absurd H (by simp)
             ·
              rw [if_neg c13] at H
              exact absurd H (by simp)
            ·
             rw [if_neg c12] at H
             exact absurd H (by simp)
           ·
            rw [if_neg c11] at H
            exact absurd H (by simp)
          ·
           replace c10 := Bool.eq_false_iff.mpr c10
           subst c10
           have H1 : (spec_l01Points.l0 kj7 a0 l1 a2 (wrap64 (x7_1 + 1))) = some r := by rw [if_neg (show ¬ (false = true) by decide)] at H; exact H
           clear H
           have H := H1
           clear H1
           have H' := as0 H
           clear H
           go_wp2
           repeat (go_quiet (fail); try go_wp2)
           go_roundg kj7
           case measure => have := HK1.out; have := HK2.out; have := HJ7.out; omega
           case rel => exact ⟨(wrap64 (x7_1 + 1)), ea_, H', ⟨by have := HK1.out; have := HK2.out; have := HJ7.out; omega⟩, dr_⟩
     ·
      replace c7 := Bool.eq_false_iff.mpr c7
      subst c7
      have H1 : (some false) = some r := by rw [if_neg (show ¬ (false = true) by decide)] at H; exact H
      clear H
      have H := H1
      clear H1
      obtain rfl := Option.some.inj H
      have p373 : 0 ≤ (x7_1 : Int) := oa_
      have q373 : x7_1 < (l1.length : Int) := oa_
      obtain ⟨ad373, e373, hx373_0⟩ := Kd.at_int HR1.out x7_1 p373 q373
      cases e373
      replace p373 := eq_true p373
      replace q373 := eq_true q373
      go_wp2_with (first | (go_at_call 43; (with_reducible refine (spec_l01In.calls (rd l1 x7_1) 0 (wrap64 (a0 - 1)) false _ A6.out).mono ?_); rintro e w' ⟨rfl, ⟨nd, rfl⟩⟩; (try first | exact ⟨rfl, _, World.drewN_drewN _ _ _⟩ | exact ⟨rfl, _, Eq.trans (World.drewN_drewN _ _ _) (congrArg (World.drewN _) (Nat.add_assoc _ _ _))⟩)))
      repeat (go_quiet (first | (go_at_call 43; (with_reducible refine (spec_l01In.calls (rd l1 x7_1) 0 (wrap64 (a0 - 1)) false _ A6.out).mono ?_); rintro e w' ⟨rfl, ⟨nd, rfl⟩⟩; (try first | exact ⟨rfl, _, World.drewN_drewN _ _ _⟩ | exact ⟨rfl, _, Eq.trans (World.drewN_drewN _ _ _) (congrArg (World.drewN _) (Nat.add_assoc _ _ _))⟩))); try go_wp2_with (first | (go_at_call 43; (with_reducible refine (spec_l01In.calls (rd l1 x7_1) 0 (wrap64 (a0 - 1)) false _ A6.out).mono ?_); rintro e w' ⟨rfl, ⟨nd, rfl⟩⟩; (try first | exact ⟨rfl, _, World.drewN_drewN _ _ _⟩ | exact ⟨rfl, _, Eq.trans (World.drewN_drewN _ _ _) (congrArg (World.drewN _) (Nat.add_assoc _ _ _))⟩))))
      go_ret
      exact ⟨ea_, dr_⟩
    ·
     rw [if_neg c5] at H
     exact absurd H (by simp)
   ·
    rw [if_neg c4] at H
    have c4b0 : decide (x7_1 < (l1.length : Int)) = false := decide_eq_false c4
    clear c4
    obtain rfl := Option.some.inj H
    go_wp2
    repeat (go_quiet (fail); try go_wp2)
    go_ret
    exact ⟨ea_, dr_⟩
def spec_l01Prime.l0 : Nat → Int → Int → Option (Bool)
 | 0, _, _ => none
 | k + 1, x0, x3 => if (wrap64 (x3 * x3)) ≤ x0 then (if x3 = 0 then (none) else (if (Int.tmod x0 x3) = 0 then (some false) else (spec_l01Prime.l0 k x0 (wrap64 (x3 + 1))))) else (some true)
def spec_l01Prime.f (k : Nat) (a0 : Int) : Option (Bool) := (spec_l01In.f a0 2 10007).bind fun t372 => (if t372 = true then (spec_l01Prime.l0 k a0 2) else (some false))
set_option maxHeartbeats 8000000 in
set_option maxRecDepth 100000 in
theorem spec_l01Prime.calls (k : Nat) (a0 : Int) (r : Bool) (w : World) (h : spec_l01Prime.f k a0 = some r) :
  Calls Tryz.prog 31 #[.int .i64 a0] w fun e w' => e = .returned (.bool r) ∧ Drawn0 w w' := by
 have H : ((spec_l01In.f a0 2 10007).bind fun t372 => (if t372 = true then (spec_l01Prime.l0 k a0 2) else (some false))) = some r := h
 clear h
 replace H := Option.bind_eq_some_iff.mp H
 obtain ⟨t372, A20, H⟩ := H
 have A2 := as0 A20
 clear A20
 by_cases c3 : t372 = true
 ·
  subst c3
  have H1 : (spec_l01Prime.l0 k a0 2) = some r := by rw [if_pos rfl] at H; exact H
  clear H
  have H := H1
  clear H1
  have H' := as0 H
  clear H
  go_enter Tryz.func31, Tryz.ntmps31
  go_wp2_with (first | ((with_reducible refine gate_callee (f := 43) rfl ?_); refine goesM_ (some 5) rfl rfl Tryz.func43 #[.int .i64 a0, .int .i64 2, .int .i64 10007] rfl ?_; (with_reducible refine (spec_l01In.calls a0 2 10007 true _ A2.out).mono ?_); rintro e w' ⟨rfl, ⟨nd, rfl⟩⟩; refine ⟨_, rfl, ?_⟩))
  go_loopg [3] k (fun kq v3 w' => ∃ (x3_1 : Int), v3 = .int .i64 x3_1 ∧ Aside0 (spec_l01Prime.l0 kq a0 x3_1 = some r) ∧ Aside0 (kq ≤ k) ∧ Drawn0 w w')
  case atStart => exact ⟨(2), ea_, H', ⟨Nat.le_refl _⟩, dr_⟩
  case round =>
   clear H'
   try clear p2
   try clear c3
   obtain ⟨x3_1, rfl, HA, HK1, ⟨m1, rfl⟩⟩ := hrel
   cases gk with
   | zero => exact absurd HA.out (by simp [spec_l01Prime.l0])
   | succ k1 =>
    have H := HA.out
    clear HA
    simp only [spec_l01Prime.l0] at H
    by_cases c4 : (wrap64 (x3_1 * x3_1)) ≤ a0
    ·
     rw [if_pos c4] at H
     have c4b0 : decide ((wrap64 (x3_1 * x3_1)) ≤ a0) = true := decide_eq_true c4
     clear c4
     by_cases c5 : x3_1 = 0
     ·
      rw [if_pos c5] at H
      exact absurd H (by simp)
     ·
      rw [if_neg c5] at H
      have c5b0 : (x3_1 == 0) = false := beq_eq_false_iff_ne.mpr c5
      have c5b1 : (x3_1 != 0) = true := bne_iff_ne.mpr c5
      by_cases c6 : (Int.tmod a0 x3_1) = 0
      ·
       rw [if_pos c6] at H
       have c6b0 : ((Int.tmod a0 x3_1) == 0) = true := beq_iff_eq.mpr c6
       have c6b1 : ((Int.tmod a0 x3_1) != 0) = false := bne_eq_false_iff_eq.mpr c6
       clear c6
       obtain rfl := Option.some.inj H
       go_wp2
       go_ret
       exact ⟨ea_, dr_⟩
      ·
       rw [if_neg c6] at H
       have c6b0 : ((Int.tmod a0 x3_1) == 0) = false := beq_eq_false_iff_ne.mpr c6
       have c6b1 : ((Int.tmod a0 x3_1) != 0) = true := bne_iff_ne.mpr c6
       have H' := as0 H
       clear H
       go_wp2
       go_roundg k1
       case measure => have := HK1.out; omega
       case rel => exact ⟨(wrap64 (x3_1 + 1)), ea_, H', ⟨by have := HK1.out; omega⟩, dr_⟩
    ·
     rw [if_neg c4] at H
     have c4b0 : decide ((wrap64 (x3_1 * x3_1)) ≤ a0) = false := decide_eq_false c4
     clear c4
     obtain rfl := Option.some.inj H
     go_wp2
     go_ret
     exact ⟨ea_, dr_⟩
 ·
  replace c3 := Bool.eq_false_iff.mpr c3
  subst c3
  have H1 : (some false) = some r := by rw [if_neg (show ¬ (false = true) by decide)] at H; exact H
  clear H
  have H := H1
  clear H1
  obtain rfl := Option.some.inj H
  go_enter Tryz.func31, Tryz.ntmps31
  go_wp2_with (first | ((with_reducible refine gate_callee (f := 43) rfl ?_); refine goesM_ (some 5) rfl rfl Tryz.func43 #[.int .i64 a0, .int .i64 2, .int .i64 10007] rfl ?_; (with_reducible refine (spec_l01In.calls a0 2 10007 false _ A2.out).mono ?_); rintro e w' ⟨rfl, ⟨nd, rfl⟩⟩; refine ⟨_, rfl, ?_⟩))
  go_ret
  exact ⟨ea_, dr_⟩
def spec_InterpolatePoly.f (k : Nat) (a0 : Int) (l1 : List Int) (l2 : List Int) : Option (List Int × Int) := (spec_l01Prime.f k a0).bind fun t447 => (if t447 = true then (if (l1.length : Int) > 25 then (some (([] : List Int), 2)) else (if (l2.length : Int) = (l1.length : Int) then ((spec_l01Points.f k a0 l1 true).bind fun t448 => (if t448 = true then ((spec_l01Points.f k a0 l2 false).bind fun t449 => (if t449 = true then ((spec_l01Interpolate.f k a0 l1 l2).bind fun t450 => (some (t450, 0))) else (some (([] : List Int), 2)))) else (some (([] : List Int), 2)))) else (some (([] : List Int), 2)))) else (some (([] : List Int), 2)))
set_option maxHeartbeats 8000000 in
set_option maxRecDepth 100000 in
theorem spec_InterpolatePoly.calls (k : Nat) (a0 : Int) (A1 : Option Addr) (c1 : Nat) (l1 : List Int) (A2 : Option Addr) (c2 : Nat) (l2 : List Int) (r1 : List Int) (r2 : Int) (w : World) (hr1 : Kd.C (Kd.int .i64) w A1 l1.length l1) (hc1 : l1.length ≤ c1) (hr2 : Kd.C (Kd.int .i64) w A2 l2.length l2) (hc2 : l2.length ≤ c2) (h : spec_InterpolatePoly.f k a0 l1 l2 = some (r1, r2)) :
  Calls Tryz.prog 7 #[.int .i64 a0, .slice A1 l1.length c1, .slice A2 l2.length c2] w fun e w' => ∃ v0_ : Value, e = .returned (.tuple #[v0_, .int .i64 r2]) ∧ Kd.R (Kd.int .i64) 2 w' w.heap.size (fun _ => True) v0_ r1 ∧ Below w.heap.size w w' := by
 have HR1 := as0 hr1
 have HC1 := as0 hc1
 clear hr1 hc1
 have HR2 := as0 hr2
 have HC2 := as0 hc2
 clear hr2 hc2
 have HB := as0 (Below.refl w.heap.size w)
 have H : ((spec_l01Prime.f k a0).bind fun t447 => (if t447 = true then (if (l1.length : Int) > 25 then (some (([] : List Int), 2)) else (if (l2.length : Int) = (l1.length : Int) then ((spec_l01Points.f k a0 l1 true).bind fun t448 => (if t448 = true then ((spec_l01Points.f k a0 l2 false).bind fun t449 => (if t449 = true then ((spec_l01Interpolate.f k a0 l1 l2).bind fun t450 => (some (t450, 0))) else (some (([] : List Int), 2)))) else (some (([] : List Int), 2)))) else (some (([] : List Int), 2)))) else (some (([] : List Int), 2)))) = some (r1, r2) := h
 clear h
 replace H := Option.bind_eq_some_iff.mp H
 obtain ⟨t447, A40, H⟩ := H
 have A4 := as0 A40
 clear A40
 by_cases c5 : t447 = true
 ·
  subst c5
  have H1 : (if (l1.length : Int) > 25 then (some (([] : List Int), 2)) else (if (l2.length : Int) = (l1.length : Int) then ((spec_l01Points.f k a0 l1 true).bind fun t448 => (if t448 = true then ((spec_l01Points.f k a0 l2 false).bind fun t449 => (if t449 = true then ((spec_l01Interpolate.f k a0 l1 l2).bind fun t450 => (some (t450, 0))) else (some (([] : List Int), 2)))) else (some (([] : List Int), 2)))) else (some (([] : List Int), 2)))) = some (r1, r2) := by rw [if_pos rfl] at H; exact H
  clear H
  have H := H1
  clear H1
  by_cases c6 : (l1.length : Int) > 25
  ·
   rw [if_pos c6] at H
   have c6b0 : decide (25 < (l1.length : Int)) = true := decide_eq_true c6
   have c6b1 : decide (25 < l1.length) = true := decide_eq_true (by omega)
   clear c6
   simp only [Option.some.injEq, Prod.mk.injEq] at H
   obtain ⟨rfl, rfl⟩ := H
   go_enter Tryz.func7, Tryz.ntmps7
   go_wp2_with (first | ((with_reducible refine gate_callee (f := 31) rfl ?_); refine goesM_ (some 9) rfl rfl Tryz.func31 #[.int .i64 a0] rfl ?_; (with_reducible refine (spec_l01Prime.calls k a0 true _ A4.out).mono ?_); rintro e w' ⟨rfl, ⟨nd, rfl⟩⟩; refine ⟨_, rfl, ?_⟩))
   go_ret2
   exact ⟨_, er_, by first | exact Kd.R_nil _ _ _ _ _ | exact Kd.N_nil _ _ _ _ _ | exact Kd.V_nil _ _ _ _ _ | exact Kd.Q_nil _ _ _ _ _ | exact Kd.S_nil _ _ _ _ _, bs HB⟩
  ·
   rw [if_neg c6] at H
   have c6b0 : decide (25 < (l1.length : Int)) = false := decide_eq_false c6
   have c6b1 : decide (25 < l1.length) = false := decide_eq_false (by omega)
   clear c6
   by_cases c7 : (l2.length : Int) = (l1.length : Int)
   ·
    rw [if_pos c7] at H
    have c7b0 : ((l2.length : Int) == (l1.length : Int)) = true := beq_iff_eq.mpr c7
    have c7b1 : ((l2.length : Int) != (l1.length : Int)) = false := bne_eq_false_iff_eq.mpr c7
    have c7b2 : (l2.length == l1.length) = true := by first | simpa using c7 | (simp at c7 ⊢; omega)
    clear c7
    replace H := Option.bind_eq_some_iff.mp H
    obtain ⟨t448, A80, H⟩ := H
    have A8 := as0 A80
    clear A80
    by_cases c9 : t448 = true
    ·
     subst c9
     have H1 : ((spec_l01Points.f k a0 l2 false).bind fun t449 => (if t449 = true then ((spec_l01Interpolate.f k a0 l1 l2).bind fun t450 => (some (t450, 0))) else (some (([] : List Int), 2)))) = some (r1, r2) := by rw [if_pos rfl] at H; exact H
     clear H
     have H := H1
     clear H1
     replace H := Option.bind_eq_some_iff.mp H
     obtain ⟨t449, A100, H⟩ := H
     have A10 := as0 A100
     clear A100
     by_cases c11 : t449 = true
     ·
      subst c11
      have H1 : ((spec_l01Interpolate.f k a0 l1 l2).bind fun t450 => (some (t450, 0))) = some (r1, r2) := by rw [if_pos rfl] at H; exact H
      clear H
      have H := H1
      clear H1
      replace H := Option.bind_eq_some_iff.mp H
      obtain ⟨t450, A120, H⟩ := H
      have A12 := as0 A120
      clear A120
      simp only [Option.some.injEq, Prod.mk.injEq] at H
      obtain ⟨rfl, rfl⟩ := H
      go_enter Tryz.func7, Tryz.ntmps7
      go_wp2_with (first | ((with_reducible refine gate_callee (f := 31) rfl ?_); refine goesM_ (some 9) rfl rfl Tryz.func31 #[.int .i64 a0] rfl ?_; (with_reducible refine (spec_l01Prime.calls k a0 true _ A4.out).mono ?_); rintro e w' ⟨rfl, ⟨nd, rfl⟩⟩; refine ⟨_, rfl, ?_⟩) | (go_at_call 32; (with_reducible refine (spec_l01Points.calls k a0 _ _ l1 true true _ ?side1 ?side2 A8.out).mono ?_); (case side1 => exact cs (HR1.out)); (case side2 => exact HC1.out); rintro e w' ⟨rfl, ⟨nd, rfl⟩⟩) | (go_at_call 32; (with_reducible refine (spec_l01Points.calls k a0 _ _ l2 false true _ ?side1 ?side2 A10.out).mono ?_); (case side1 => exact cs (HR2.out)); (case side2 => exact HC2.out); rintro e w' ⟨rfl, ⟨nd, rfl⟩⟩) | ((with_reducible refine gate_callee (f := 33) rfl ?_); refine goesM_ (some 38) rfl rfl Tryz.func33 #[.int .i64 a0, .slice A1 l1.length c1, .slice A2 l2.length c2] rfl ?_; (with_reducible refine (spec_l01Interpolate.calls k a0 _ _ l1 _ _ l2 t450 _ ?side1 ?side2 ?side3 ?side4 A12.out).mono ?_); (case side1 => exact cs (HR1.out)); (case side2 => exact HC1.out); (case side3 => exact cs (HR2.out)); (case side4 => exact HC2.out); rintro e w13 ⟨v451, rfl, ho0, hb⟩; refine ⟨_, rfl, ?_⟩; have n0_ := as0 (Kd.R_lower ho0 (below_size (bs HB))); have n1_ := as0 (below_step (bs HB) hb); clear HB; have HO452 := n0_; have HB := n1_; clear n0_ n1_; (try clear hb); (try clear hb2); (try clear hk); (try clear hi); (try clear ho0)))
      go_ret2
      exact ⟨_, er_, rs HO452, bs HB⟩
     ·
      replace c11 := Bool.eq_false_iff.mpr c11
      subst c11
      have H1 : (some (([] : List Int), 2)) = some (r1, r2) := by rw [if_neg (show ¬ (false = true) by decide)] at H; exact H
      clear H
      have H := H1
      clear H1
      simp only [Option.some.injEq, Prod.mk.injEq] at H
      obtain ⟨rfl, rfl⟩ := H
      go_enter Tryz.func7, Tryz.ntmps7
      go_wp2_with (first | ((with_reducible refine gate_callee (f := 31) rfl ?_); refine goesM_ (some 9) rfl rfl Tryz.func31 #[.int .i64 a0] rfl ?_; (with_reducible refine (spec_l01Prime.calls k a0 true _ A4.out).mono ?_); rintro e w' ⟨rfl, ⟨nd, rfl⟩⟩; refine ⟨_, rfl, ?_⟩) | (go_at_call 32; (with_reducible refine (spec_l01Points.calls k a0 _ _ l1 true true _ ?side1 ?side2 A8.out).mono ?_); (case side1 => exact cs (HR1.out)); (case side2 => exact HC1.out); rintro e w' ⟨rfl, ⟨nd, rfl⟩⟩) | (go_at_call 32; (with_reducible refine (spec_l01Points.calls k a0 _ _ l2 false false _ ?side1 ?side2 A10.out).mono ?_); (case side1 => exact cs (HR2.out)); (case side2 => exact HC2.out); rintro e w' ⟨rfl, ⟨nd, rfl⟩⟩))
      go_ret2
      exact ⟨_, er_, by first | exact Kd.R_nil _ _ _ _ _ | exact Kd.N_nil _ _ _ _ _ | exact Kd.V_nil _ _ _ _ _ | exact Kd.Q_nil _ _ _ _ _ | exact Kd.S_nil _ _ _ _ _, bs HB⟩
    ·
     replace c9 := Bool.eq_false_iff.mpr c9
     subst c9
     have H1 : (some (([] : List Int), 2)) = some (r1, r2) := by rw [if_neg (show ¬ (false = true) by decide)] at H; exact H
     clear H
     have H := H1
     clear H1
     simp only [Option.some.injEq, Prod.mk.injEq] at H
     obtain ⟨rfl, rfl⟩ := H
     go_enter Tryz.func7, Tryz.ntmps7
     go_wp2_with (first | ((with_reducible refine gate_callee (f := 31) rfl ?_); refine goesM_ (some 9) rfl rfl Tryz.func31 #[.int .i64 a0] rfl ?_; (with_reducible refine (spec_l01Prime.calls k a0 true _ A4.out).mono ?_); rintro e w' ⟨rfl, ⟨nd, rfl⟩⟩; refine ⟨_, rfl, ?_⟩) | (go_at_call 32; (with_reducible refine (spec_l01Points.calls k a0 _ _ l1 true false _ ?side1 ?side2 A8.out).mono ?_); (case side1 => exact cs (HR1.out)); (case side2 => exact HC1.out); rintro e w' ⟨rfl, ⟨nd, rfl⟩⟩))
     go_ret2
     exact ⟨_, er_, by first | exact Kd.R_nil _ _ _ _ _ | exact Kd.N_nil _ _ _ _ _ | exact Kd.V_nil _ _ _ _ _ | exact Kd.Q_nil _ _ _ _ _ | exact Kd.S_nil _ _ _ _ _, bs HB⟩
   ·
    rw [if_neg c7] at H
    have c7b0 : ((l2.length : Int) == (l1.length : Int)) = false := beq_eq_false_iff_ne.mpr c7
    have c7b1 : ((l2.length : Int) != (l1.length : Int)) = true := bne_iff_ne.mpr c7
    have c7b2 : (l2.length == l1.length) = false := by first | simpa using c7 | (simp at c7 ⊢; omega)
    simp only [Option.some.injEq, Prod.mk.injEq] at H
    obtain ⟨rfl, rfl⟩ := H
    go_enter Tryz.func7, Tryz.ntmps7
    go_wp2_with (first | ((with_reducible refine gate_callee (f := 31) rfl ?_); refine goesM_ (some 9) rfl rfl Tryz.func31 #[.int .i64 a0] rfl ?_; (with_reducible refine (spec_l01Prime.calls k a0 true _ A4.out).mono ?_); rintro e w' ⟨rfl, ⟨nd, rfl⟩⟩; refine ⟨_, rfl, ?_⟩))
    go_ret2
    exact ⟨_, er_, by first | exact Kd.R_nil _ _ _ _ _ | exact Kd.N_nil _ _ _ _ _ | exact Kd.V_nil _ _ _ _ _ | exact Kd.Q_nil _ _ _ _ _ | exact Kd.S_nil _ _ _ _ _, bs HB⟩
 ·
  replace c5 := Bool.eq_false_iff.mpr c5
  subst c5
  have H1 : (some (([] : List Int), 2)) = some (r1, r2) := by rw [if_neg (show ¬ (false = true) by decide)] at H; exact H
  clear H
  have H := H1
  clear H1
  simp only [Option.some.injEq, Prod.mk.injEq] at H
  obtain ⟨rfl, rfl⟩ := H
  go_enter Tryz.func7, Tryz.ntmps7
  go_wp2_with (first | ((with_reducible refine gate_callee (f := 31) rfl ?_); refine goesM_ (some 9) rfl rfl Tryz.func31 #[.int .i64 a0] rfl ?_; (with_reducible refine (spec_l01Prime.calls k a0 false _ A4.out).mono ?_); rintro e w' ⟨rfl, ⟨nd, rfl⟩⟩; refine ⟨_, rfl, ?_⟩))
  go_ret2
  exact ⟨_, er_, by first | exact Kd.R_nil _ _ _ _ _ | exact Kd.N_nil _ _ _ _ _ | exact Kd.V_nil _ _ _ _ _ | exact Kd.Q_nil _ _ _ _ _ | exact Kd.S_nil _ _ _ _ _, bs HB⟩
def impl_IsPoly.f (a0 : Int) (l1 : List Int) : Option Bool := some (decide (l1.length ≤ 25) && l1.all (hasB a0) && (decide (l1.length = 0) || decide (rd l1 ((l1.length : Int) - 1) ≠ 0)))
set_option maxHeartbeats 4000000 in
set_option maxRecDepth 100000 in
theorem impl_IsPoly.calls (a0 : Int) (A1 : Option Addr) (c1 : Nat) (l1 : List Int) (r : Bool) (w : World) (hr1 : Kd.C (Kd.int .i64) w A1 l1.length l1) (hc1 : l1.length ≤ c1) (h : impl_IsPoly.f a0 l1 = some r) :
  Calls Tryz.prog 55 #[.int .i64 a0, .slice A1 l1.length c1] w fun e w' => e = .returned (.bool r) ∧ Below w.heap.size w w' := by
 obtain rfl := Option.some.inj h
 clear h
 have eg : ∀ args w, (callFunc 36 args).run Tryz.prog w = .ok (.enter 36 args) w := enters_of Tryz.func36 (by kernel_rfl) rfl
 have HC := fun W (hW : Below w.heap.size w W) => areAll_bound A1 c1 l1 (hasB a0) 36 (.int .i64 a0) eg W (Kd.C_below hr1 hW) (fun x W' _ => has_hasB a0 x W')
 clear eg
 have HB := as0 (Below.refl w.heap.size w)
 by_cases h1 : l1.length ≤ 25
 ·
  have d1 : decide ((l1.length : Int) ≤ 25) = true := decide_eq_true (by omega)
  generalize ha : l1.all (hasB a0) = b at HC ⊢
  clear ha
  have HC' := HC w (Below.refl _ _)
  clear HC
  cases b with
  | false =>
   go_enter Tryz.func55, Tryz.ntmps55
   go_wp2_with (go_at_call 60; refine HC'.mono ?_; rintro e w' ⟨rfl, hb⟩)
   go_ret
   exact ⟨by simp, hb⟩
  | true =>
   by_cases h0 : l1.length = 0
   ·
    have d0 : (((l1.length : Nat) : Int) == 0) = true := by simp [h0]
    have d2 : decide (l1.length = 0) = true := decide_eq_true h0
    have H0 := as0 h0
    clear h0
    go_enter Tryz.func55, Tryz.ntmps55
    go_wp2_with (go_at_call 60; refine HC'.mono ?_; rintro e w' ⟨rfl, hb⟩)
    go_ret
    exact ⟨by simp [h1, H0.out], hb⟩
   ·
    have d0 : (((l1.length : Nat) : Int) == 0) = false := beq_eq_false_iff_ne.mpr (by omega)
    have q0 : 0 ≤ (l1.length : Int) - 1 := by omega
    have q1 : (l1.length : Int) - 1 < (l1.length : Int) := by omega
    obtain ⟨ad, rfl, hcell⟩ := Kd.at_int hr1 ((l1.length : Int) - 1) q0 q1
    rw [show ((l1.length : Int) - 1).toNat = l1.length - 1 by omega] at hcell
    clear hr1
    have H0 := as0 h0
    clear h0
    go_enter Tryz.func55, Tryz.ntmps55
    go_wp2_with (go_at_call 60; refine HC'.mono ?_; rintro e w' ⟨rfl, hb⟩; have hcell' := pw_cell_below hb hcell; clear hcell)
    go_ret
    exact ⟨by simp [h1, H0.out, bne, rd]; rfl, hb⟩
 ·
  have d1 : decide ((l1.length : Int) ≤ 25) = false := decide_eq_false (by omega)
  clear HC
  go_enter Tryz.func55, Tryz.ntmps55
  go_wp2
  go_ret
  exact ⟨by simp [h1], HB.out⟩
def impl_always.f  : Option (Bool) := some true
set_option maxHeartbeats 8000000 in
set_option maxRecDepth 100000 in
theorem impl_always.calls  (r : Bool) (w : World) (h : impl_always.f  = some r) :
  Calls Tryz.prog 47 #[] w fun e w' => e = .returned (.bool r) ∧ Drawn0 w w' := by
 have H : (some true) = some r := h
 clear h
 obtain rfl := Option.some.inj H
 go_enter Tryz.func47, Tryz.ntmps47
 go_wp2
 go_ret
 exact ⟨ea_, dr_⟩
end Go.Proofs.YtmadpicanmjhhaaGreatDoor.H
namespace Go.Proofs.YtmadpicanmjhhaaGreatDoor.H
open Go.RowKit Go.Proofs.YtmadpicanmjhhaaGreatDoorW.PrintWords Go.Proofs.YtmadpicanmjhhaaGreatDoorW.PrintLast Go.Proofs.YtmadpicanmjhhaaGreatDoorW.PrintMore
attribute [local go_sem] max2_int min2_int max_two min_two max_three min_three max_four min_four   -- for this text's walks alone
set_option linter.unusedVariables false
set_option linter.unusedSimpArgs false
set_option maxHeartbeats 4000000 in
set_option maxRecDepth 100000 in
theorem indexFunc2_any (A : Option Addr) (n c : Nat) (q : Nat → Bool) (g : Nat) (lb : Array Value) (eg : ∀ args w, (callFunc g args).run Tryz.prog w = .ok (.enter g args) w) (w : World)
  (hn : n ≤ 9223372036854775807) (h : ∀ j, j < n → ∃ ad v, A = some ad ∧ w.cell? (ad.add j) = some v ∧ Gives g lb v (q j) w) :
  Calls Tryz.prog 115 #[.slice A n c, .func (.func g) #[] lb] w fun e w' => (∃ i : Int, e = .returned (.int .i64 i) ∧ (0 ≤ i ↔ ∃ j, j < n ∧ q j = true)) ∧ Below w.heap.size w w' := by
 have HH := as0 h
 clear h
 go_enter Tryz.func115, Tryz.ntmps115
 go_wp2
 go_loopg [5, 8] n (fun gg _ s8 wr => ∃ kk : Nat, kk ≤ n ∧ n - kk ≤ gg ∧ s8 = .int .i64 kk ∧ Aside0 (∀ j, j < kk → q j = false) ∧ Aside0 (Below w.heap.size w wr))
 case atStart => exact ⟨0, Nat.zero_le _, by omega, rfl, ⟨fun j hj => absurd hj (Nat.not_lt_zero _)⟩, ⟨Below.refl _ _⟩⟩
 case round =>
  obtain ⟨kk, hkk, hg, rfl, HA, HB⟩ := hrel
  by_cases hlt : kk < n
  ·
   have hltz : (kk : Int) < (n : Int) := by omega
   obtain ⟨ad, v, rfl, hc, hcall⟩ := HH.out kk hlt
   have hcall' := hcall wr HB.out
   have hc' := pw_cell_below HB.out hc
   clear hcall hc
   cases hq : q kk with
   | true =>
    rw [hq] at hcall'
    have Hq := as0 hq
    clear hq HH
    go_wp2_with fail
    refine (hcall').mono ?_
    rintro e w' ⟨rfl, hb⟩
    have HB' := as0 (below_next HB.out hb)
    clear hcall' eg hb HB
    go_wp2
    go_ret
    exact ⟨⟨kk, rfl, by constructor; (intro _; exact ⟨kk, hlt, Hq.out⟩); (intro _; omega)⟩, HB'.out⟩
   | false =>
    rw [hq] at hcall'
    have Hq := as0 hq
    clear hq HH
    go_wp2_with fail
    refine (hcall').mono ?_
    rintro e w' ⟨rfl, hb⟩
    have HB' := as0 (below_next HB.out hb)
    clear hcall' eg hb HB
    go_wp2
    go_roundg (n - (kk + 1))
    case measure => omega
    case rel =>
     refine ⟨kk + 1, by omega, by omega, by go_num, ⟨fun j hj => ?_⟩, HB'⟩
     by_cases e : j = kk
     ·
      subst e; exact Hq.out
     ·
      exact HA.out j (by omega)
  ·
   have hltz : ¬ (kk : Int) < (n : Int) := by omega
   have : kk = n := by omega
   subst this
   go_wp2
   go_ret
   refine ⟨⟨-1, rfl, ?_⟩, HB.out⟩
   constructor
   ·
    intro h; omega
   ·
    rintro ⟨j, hj, hq⟩
    rw [HA.out j hj] at hq
    cases hq
end Go.Proofs.YtmadpicanmjhhaaGreatDoor.H
namespace Go.Proofs.YtmadpicanmjhhaaGreatDoor.H
open Go.RowKit Go.Proofs.YtmadpicanmjhhaaGreatDoorW.PrintWords Go.Proofs.YtmadpicanmjhhaaGreatDoorW.PrintLast Go.Proofs.YtmadpicanmjhhaaGreatDoorW.PrintMore
attribute [local go_sem] max2_int min2_int max_two min_two max_three min_three max_four min_four   -- for this text's walks alone
set_option linter.unusedVariables false
set_option linter.unusedSimpArgs false
set_option maxHeartbeats 4000000 in
set_option maxRecDepth 100000 in
theorem containsFunc2_any (A : Option Addr) (n c : Nat) (q : Nat → Bool) (r : Bool) (hr : r = true ↔ ∃ j, j < n ∧ q j = true) (g : Nat) (lb : Array Value) (eg : ∀ args w, (callFunc g args).run Tryz.prog w = .ok (.enter g args) w) (w : World)
    (hn : n ≤ 9223372036854775807) (h : ∀ j, j < n → ∃ ad v, A = some ad ∧ w.cell? (ad.add j) = some v ∧ Gives g lb v (q j) w) :
    Calls Tryz.prog 95 #[.slice A n c, .func (.func g) #[] lb] w fun e w' => e = .returned (.bool r) ∧ Below w.heap.size w w' := by
  have HC := indexFunc2_any A n c q g lb eg w hn h
  clear h eg
  have Hr := as0 hr
  clear hr
  cases r with
  | true =>
    have HC' : Calls Tryz.prog 115 #[.slice A n c, .func (.func g) #[] lb] w fun e w' => (∃ i : Int, e = .returned (.int .i64 i) ∧ 0 ≤ i) ∧ Below w.heap.size w w' :=
      HC.mono fun e w' ⟨⟨i, he, hi⟩, hd⟩ => ⟨⟨i, he, hi.2 (Hr.out.1 rfl)⟩, hd⟩
    clear HC
    go_enter Tryz.func95, Tryz.ntmps95
    go_wp2_with (go_at_call 115; refine HC'.mono ?_; rintro e w' ⟨⟨i, rfl, hi⟩, hb⟩)
    go_ret
    exact ⟨rfl, hb⟩
  | false =>
    have HC' : Calls Tryz.prog 115 #[.slice A n c, .func (.func g) #[] lb] w fun e w' => (∃ i : Int, e = .returned (.int .i64 i) ∧ i < 0) ∧ Below w.heap.size w w' :=
      HC.mono fun e w' ⟨⟨i, he, hi⟩, hd⟩ => ⟨⟨i, he, by
        rcases Int.lt_or_le i 0 with h | h
        · exact h
        · exact absurd (Hr.out.2 (hi.1 h)) (by simp)⟩, hd⟩
    clear HC
    go_enter Tryz.func95, Tryz.ntmps95
    go_wp2_with (go_at_call 115; refine HC'.mono ?_; rintro e w' ⟨⟨i, rfl, hi⟩, hb⟩)
    go_ret
    exact ⟨by have hn0 : ¬ 0 ≤ i := by omega
              simp [hn0], hb⟩
end Go.Proofs.YtmadpicanmjhhaaGreatDoor.H
namespace Go.Proofs.YtmadpicanmjhhaaGreatDoor.H
open Go.RowKit Go.Proofs.YtmadpicanmjhhaaGreatDoorW.PrintWords Go.Proofs.YtmadpicanmjhhaaGreatDoorW.PrintLast Go.Proofs.YtmadpicanmjhhaaGreatDoorW.PrintMore
attribute [local go_sem] max2_int min2_int max_two min_two max_three min_three max_four min_four   -- for this text's walks alone
set_option linter.unusedVariables false
set_option linter.unusedSimpArgs false
set_option maxHeartbeats 4000000 in
set_option maxRecDepth 100000 in
theorem notIs2_clos (v : Value) (r : Bool) (g : Nat) (lb : Array Value) (B : Nat) (eg : ∀ args w, (callFunc g args).run Tryz.prog w = .ok (.enter g args) w) (w : World)
  (hB : w.cell? ⟨B, 0, none⟩ = some (.func (.func g) #[] lb)) (h : Gives g lb v r w) :
  Gives 96 #[.pointer (some ⟨B, 0, none⟩)] v (!r) w := by
 intro W hW
 have hB' := (hW.cell (p := ⟨B, 0, none⟩) (World.block_lt_of_cell? w _ hB)).trans hB
 have h' := h W hW
 clear h hW hB
 show Calls Tryz.prog 96 #[v, .pointer (some ⟨B, 0, none⟩)] W _
 go_enter Tryz.func96, Tryz.ntmps96
 go_wp2_with fail
 refine h'.mono ?_
 rintro e w' ⟨rfl, hb⟩
 clear h' eg hB'
 go_wp2
 go_ret
 exact ⟨rfl, hb⟩
set_option maxHeartbeats 4000000 in
set_option maxRecDepth 100000 in
theorem areAll2_clos (A : Option Addr) (n c : Nat) (q : Nat → Bool) (r : Bool) (hr : r = true ↔ ∀ j, j < n → q j = true) (g : Nat) (lb : Array Value) (eg : ∀ args w, (callFunc g args).run Tryz.prog w = .ok (.enter g args) w) (w : World)
  (hn : n ≤ 9223372036854775807) (h : ∀ j, j < n → ∃ ad v, A = some ad ∧ w.cell? (ad.add j) = some v ∧ Gives g lb v (q j) w) :
  Calls Tryz.prog 70 #[.slice A n c, .func (.func g) #[] lb] w fun e w' => e = .returned (.bool r) ∧ Below w.heap.size w w' := by
 have ec : ∀ args w, (callFunc 96 args).run Tryz.prog w = .ok (.enter 96 args) w := enters_of Tryz.func96 (by kernel_rfl) rfl
 have hcell : (w.alloc (.cells #[.func (.func g) #[] lb] 80)).cell? ⟨w.heap.size, 0, none⟩ = some (.func (.func g) #[] lb) := by simp
 have hb : Below w.heap.size w (w.alloc (.cells #[.func (.func g) #[] lb] 80)) := (Below.refl _ w).alloc (Nat.le_refl _) _
 have HC := containsFunc2_any A n c (fun j => !(q j)) (!r) (by
   rw [Bool.not_eq_true']
   constructor
   ·
    intro hf
    refine Classical.byContradiction fun hne => ?_
    have : r = true := hr.2 fun j hj => by
     cases hq : q j with
     | true => rfl
     | false => exact absurd ⟨j, hj, by simp [hq]⟩ hne
    rw [this] at hf; cases hf
   ·
    rintro ⟨j, hj, hq⟩
    cases hr' : r with
    | false => rfl
    | true => have := hr.1 hr' j hj; rw [this] at hq; cases hq) 96 #[.pointer (some ⟨w.heap.size, 0, none⟩)] ec (w.alloc (.cells #[.func (.func g) #[] lb] 80)) hn
  (fun j hj => by
   obtain ⟨ad, v, rfl, hc, hg⟩ := h j hj
   exact ⟨ad, v, rfl, pw_cell_below hb hc, notIs2_clos v (q j) g lb w.heap.size eg _ hcell fun W hW => hg W (hb.trans (hW.mono (by simp)))⟩)
 clear h eg hcell ec hr
 go_enter Tryz.func70, Tryz.ntmps70
 go_wp2_with (go_at_call 95; refine HC.mono ?_; rintro e w' ⟨rfl, hb'⟩)
 go_ret
 exact ⟨by simp, hb.trans (hb'.mono (by simp))⟩
end Go.Proofs.YtmadpicanmjhhaaGreatDoor.H
namespace Go.Proofs.YtmadpicanmjhhaaGreatDoor.H
open Go.RowKit Go.Proofs.YtmadpicanmjhhaaGreatDoorW.PrintWords Go.Proofs.YtmadpicanmjhhaaGreatDoorW.PrintLast Go.Proofs.YtmadpicanmjhhaaGreatDoorW.PrintMore
attribute [local go_sem] max2_int min2_int max_two min_two max_three min_three max_four min_four   -- for this text's walks alone
set_option linter.unusedVariables false
set_option linter.unusedSimpArgs false
def polyB (p : Int) (l : List Int) : Bool := decide (l.length ≤ 25) && l.all (hasB p) && (decide (l.length = 0) || decide (rd l ((l.length : Int) - 1) ≠ 0))
theorem polyClos (p : Int) (A : Option Addr) (c : Nat) (l : List Int) (B : Nat) (w : World) (hB : w.cell? ⟨B, 0, none⟩ = some (.int .i64 p)) (hr : Kd.C (Kd.int .i64) w A l.length l) (hc : l.length ≤ c) :
  Gives 71 #[.pointer (some ⟨B, 0, none⟩)] (.slice A l.length c) (polyB p l) w := by
 intro W hW
 have hB' := (hW.cell (p := ⟨B, 0, none⟩) (World.block_lt_of_cell? w _ hB)).trans hB
 have hP := impl_IsPoly.calls p A c l (polyB p l) W (Kd.C_below hr hW) hc rfl
 clear hW hB hr
 show Calls Tryz.prog 71 #[.slice A l.length c, .pointer (some ⟨B, 0, none⟩)] W _
 go_enter Tryz.func71, Tryz.ntmps71
 go_wp2_with (go_at_call 55; refine hP.mono ?_; rintro e w' ⟨rfl, hb⟩)
 go_ret
 exact ⟨rfl, hb⟩
def Gives0 (g : Nat) (lb : Array Value) (r : Bool) (w : World) : Prop :=
 ∀ W : World, Below w.heap.size w W → Calls Tryz.prog g lb W fun e w' => e = .returned (.bool r) ∧ Below W.heap.size W w'
theorem Gives0.later {g : Nat} {lb : Array Value} {r : Bool} {w W : World} (h : Gives0 g lb r w) (hb : Below w.heap.size w W) : Gives0 g lb r W := fun W' hW => h W' (below_next hb hW)
theorem always_gives (w : World) : Gives0 47 #[] true w := fun W _ => (impl_always.calls true W rfl).mono fun _ _ ⟨he, hd⟩ => ⟨he, hd.below⟩
set_option maxHeartbeats 4000000 in
set_option maxRecDepth 100000 in
theorem polyCode_any (k : Nat) (p : Int) (g : Nat) (lb : Array Value) (eg : ∀ args w, (callFunc g args).run Tryz.prog w = .ok (.enter g args) w) (b t : Bool) (P : Addr) (n c : Nat) (hn : n ≤ 9223372036854775807) (ok : Bool) (q : Nat → Bool) (hok : ok = true ↔ ∀ j, j < n → q j = true) (w : World)
  (hg : Gives0 g lb b w) (h : ∀ j, j < n → ∃ (A : Option Addr) (c : Nat) (l : List Int), w.cell? (P.add j) = some (.slice A l.length c) ∧ Kd.C (Kd.int .i64) w A l.length l ∧ l.length ≤ c ∧ q j = polyB p l) (ht : ok = true → impl_IsPrime.f k p = some t) :
  Calls Tryz.prog 34 #[.int .i64 p, .func (.func g) #[] lb, .slice (some P) n c] w fun e w' => e = .returned (.int .i64 (if ok = true then (if (t && b) = true then 0 else 2) else 1)) ∧ Below w.heap.size w w' := by
 have ec : ∀ args w, (callFunc 71 args).run Tryz.prog w = .ok (.enter 71 args) w := enters_of Tryz.func71 (by kernel_rfl) rfl
 have hcell : (w.alloc (.cells #[.int .i64 p] 2)).cell? ⟨w.heap.size, 0, none⟩ = some (.int .i64 p) := by simp
 have hb0 : Below w.heap.size w (w.alloc (.cells #[.int .i64 p] 2)) := (Below.refl _ w).alloc (Nat.le_refl _) _
 have HA := areAll2_clos (some P) n c q ok hok 71 #[.pointer (some ⟨w.heap.size, 0, none⟩)] ec (w.alloc (.cells #[.int .i64 p] 2)) hn (fun j hj => by
  obtain ⟨A, c, l, hc, hr, hlc, hq⟩ := h j hj
  exact ⟨P, _, rfl, pw_cell_below hb0 hc, hq ▸ polyClos p A c l _ _ hcell (Kd.C_below hr hb0) hlc⟩)
 clear h ec hok
 have Hb0 := as0 hb0
 clear hb0
 cases ok with
 | false =>
  clear hg eg hcell
  go_enter Tryz.func34, Tryz.ntmps34
  go_wp2_with (go_at_call 70; refine HA.mono ?_; rintro e w' ⟨rfl, hb⟩)
  go_ret
  exact ⟨rfl, Hb0.out.trans (hb.mono (by simp))⟩
 | true =>
  have HP := fun W => impl_IsPrime.calls k p t W (ht rfl)
  have Hc := as0 hcell
  clear ht hcell
  cases t with
  | false =>
   clear hg eg
   go_enter Tryz.func34, Tryz.ntmps34
   go_wp2_with (first | (go_at_call 70; refine HA.mono ?_; rintro e w' ⟨rfl, hb⟩; have hc' := pw_cell_below hb Hc.out; have Hb := as0 hb; clear hb HA) | (go_at_call 51; refine (HP _).mono ?_; rintro e w' ⟨rfl, ⟨nd, rfl⟩⟩))
   go_ret
   exact ⟨rfl, pw_below_drewN (Hb0.out.trans (Hb.out.mono (by simp))) _⟩
  | true =>
   have Hg := as0 hg
   clear hg
   cases b with
   | _ =>
    go_enter Tryz.func34, Tryz.ntmps34
    go_wp2_with (first | (go_at_call 70; refine HA.mono ?_; rintro e w' ⟨rfl, hb⟩; have hc' := pw_cell_below hb Hc.out; have Hb := as0 hb; clear hb HA) | (go_at_call 51; refine (HP _).mono ?_; clear HP; rintro e w' ⟨rfl, ⟨nd, rfl⟩⟩))
    have Hd := as0 (pw_below_drewN (Hb0.out.trans (Hb.out.mono (by simp))) nd)
    refine (Hg.out _ Hd.out).mono ?_
    rintro e w' ⟨rfl, hb⟩
    have He := as0 (below_next Hd.out hb)
    clear hb Hd Hb hc' Hc Hg eg
    go_wp2
    go_ret
    exact ⟨rfl, He.out⟩
def impl_polyCode_1.f (k : Nat) (a0 : Int) (a1 : Bool) (l2 : List Int) : Option Int := if polyB a0 l2 = true then (impl_IsPrime.f k a0).bind fun t => some (if (t && a1) = true then 0 else 2) else some 1
def impl_polyCode_2.f (k : Nat) (a0 : Int) (a1 : Bool) (l2 l3 : List Int) : Option Int := if (polyB a0 l2 && polyB a0 l3) = true then (impl_IsPrime.f k a0).bind fun t => some (if (t && a1) = true then 0 else 2) else some 1
theorem impl_polyCode_1.calls (k : Nat) (a0 : Int) (a1 : Bool) (A2 : Option Addr) (c2 : Nat) (l2 : List Int) (r : Int) (w : World) {g : Nat} {lb : Array Value} {P : Nat}
  (hr2 : Kd.C (Kd.int .i64) w A2 l2.length l2) (hc2 : l2.length ≤ c2) (h : impl_polyCode_1.f k a0 a1 l2 = some r) (eg : ∀ args w, (callFunc g args).run Tryz.prog w = .ok (.enter g args) w) (hg : Gives0 g lb a1 w) (hP : w.cell? ⟨P, 0, none⟩ = some (.slice A2 l2.length c2)) :
  Calls Tryz.prog 34 #[.int .i64 a0, .func (.func g) #[] lb, .slice (some ⟨P, 0, none⟩) 1 1] w fun e w' => e = .returned (.int .i64 r) ∧ Below w.heap.size w w' := by
 unfold impl_polyCode_1.f at h
 obtain ⟨t, ht, hv⟩ : ∃ t, (polyB a0 l2 = true → impl_IsPrime.f k a0 = some t) ∧ r = (if polyB a0 l2 = true then (if (t && a1) = true then 0 else 2) else 1) := by
  cases hq : polyB a0 l2 with
  | false => rw [hq] at h; simp at h; exact ⟨true, by simp, by simp [h]⟩
  | true =>
   rw [hq] at h; simp only [if_true] at h
   obtain ⟨t, h1, h2⟩ := Option.bind_eq_some_iff.mp h
   exact ⟨t, fun _ => h1, by simpa using (Option.some.inj h2).symm⟩
 rw [hv]
 exact polyCode_any k a0 g lb eg a1 t ⟨P, 0, none⟩ 1 1 (by decide) (polyB a0 l2) (fun _ => polyB a0 l2) ⟨fun h j _ => h, fun h => h 0 (by decide)⟩ w hg (fun j hj => by
  obtain rfl : j = 0 := by omega
  exact ⟨A2, c2, l2, by rw [add_plain]; exact hP, hr2, hc2, rfl⟩) ht
theorem impl_polyCode_2.calls (k : Nat) (a0 : Int) (a1 : Bool) (A2 : Option Addr) (c2 : Nat) (l2 : List Int) (A3 : Option Addr) (c3 : Nat) (l3 : List Int) (r : Int) (w : World) {g : Nat} {lb : Array Value} {P : Nat}
  (hr2 : Kd.C (Kd.int .i64) w A2 l2.length l2) (hc2 : l2.length ≤ c2) (hr3 : Kd.C (Kd.int .i64) w A3 l3.length l3) (hc3 : l3.length ≤ c3) (h : impl_polyCode_2.f k a0 a1 l2 l3 = some r) (eg : ∀ args w, (callFunc g args).run Tryz.prog w = .ok (.enter g args) w) (hg : Gives0 g lb a1 w) (hP : w.cell? ⟨P, 0, none⟩ = some (.slice A2 l2.length c2)) (hP1 : w.cell? ⟨P, 1, none⟩ = some (.slice A3 l3.length c3)) :
  Calls Tryz.prog 34 #[.int .i64 a0, .func (.func g) #[] lb, .slice (some ⟨P, 0, none⟩) 2 2] w fun e w' => e = .returned (.int .i64 r) ∧ Below w.heap.size w w' := by
 unfold impl_polyCode_2.f at h
 obtain ⟨t, ht, hv⟩ : ∃ t, ((polyB a0 l2 && polyB a0 l3) = true → impl_IsPrime.f k a0 = some t) ∧ r = (if (polyB a0 l2 && polyB a0 l3) = true then (if (t && a1) = true then 0 else 2) else 1) := by
  cases hq : (polyB a0 l2 && polyB a0 l3) with
  | false => rw [hq] at h; simp at h; exact ⟨true, by simp, by simp [h]⟩
  | true =>
   rw [hq] at h; simp only [if_true] at h
   obtain ⟨t, h1, h2⟩ := Option.bind_eq_some_iff.mp h
   exact ⟨t, fun _ => h1, by simpa using (Option.some.inj h2).symm⟩
 rw [hv]
 exact polyCode_any k a0 g lb eg a1 t ⟨P, 0, none⟩ 2 2 (by decide) (polyB a0 l2 && polyB a0 l3) (fun j => if j = 0 then polyB a0 l2 else polyB a0 l3)
  ⟨fun h j hj => by
   rw [Bool.and_eq_true] at h
   by_cases e : j = 0
   ·
    rw [if_pos e]; exact h.1
   ·
    rw [if_neg e]; exact h.2, fun h => by
   rw [Bool.and_eq_true]
   exact ⟨by simpa using h 0 (by decide), by simpa using h 1 (by decide)⟩⟩ w hg (fun j hj => by
  by_cases e : j = 0
  ·
   subst e; exact ⟨A2, c2, l2, by rw [add_plain]; exact hP, hr2, hc2, by rw [if_pos rfl]⟩
  ·
   obtain rfl : j = 1 := by omega
   exact ⟨A3, c3, l3, by rw [add_plain]; exact hP1, hr3, hc3, rfl⟩) ht
end Go.Proofs.YtmadpicanmjhhaaGreatDoor.H
