/- Joined texts of a claim: the printed functions and what is proved of them. -/
import Derived.Test.YtlmolloallhclaaYHx0
import Derived.Test.YtlmolloallhclaaMa3
import Derived.Test.YtlmolloallhclaaMa1
import Derived.Test.YtlmolloallhclaaMa2
import Derived.Test.YtlmolloallhclaaYWWords
namespace Go.Proofs.Ytlmolloallhclaa.H
open Go.RowKit Go.Proofs.YtlmolloallhclaaW.PrintWords Go.Proofs.YtlmolloallhclaaW.PrintLast Go.Proofs.YtlmolloallhclaaW.PrintMore
attribute [local go_sem] max2_int min2_int max_two min_two max_three min_three max_four min_four   -- for this text's walks alone
set_option linter.unusedVariables false
set_option linter.unusedSimpArgs false
mutual
def spec_l01Times.j0 : Nat → Int → List Int → List Int → Bool → Option (List Int)
 | 0, _, _, _, _ => none
 | k + 1, x0, x1, x2, x17 => if x17 = true then (some (([] : List Int))) else (if 0 ≤ (wrap64 ((wrap64 ((x1.length : Int) + (x2.length : Int))) - 1)) then (if (wrap64 ((wrap64 ((x1.length : Int) + (x2.length : Int))) - 1) : Int).toNat ≤ 35184372088832 then (spec_l01Times.l0 k x0 x1 x2 (List.replicate (wrap64 ((wrap64 ((x1.length : Int) + (x2.length : Int))) - 1) : Int).toNat 0) 0) else (none)) else (none))
def spec_l01Times.l0 : Nat → Int → List Int → List Int → List Int → Int → Option (List Int)
 | 0, _, _, _, _, _ => none
 | k + 1, x0, x1, x2, x7, x8 => if x8 < (x1.length : Int) then (spec_l01Times.l1 k x0 x1 x2 x7 x8 0) else ((spec_l01Trim.f k x7).bind fun t248 => (some t248))
def spec_l01Times.l1 : Nat → Int → List Int → List Int → List Int → Int → Int → Option (List Int)
 | 0, _, _, _, _, _, _ => none
 | k + 1, x0, x1, x2, x7, x8, x9 => if x9 < (x2.length : Int) then (if 0 ≤ (wrap64 (x8 + x9)) then (if (wrap64 (x8 + x9)) < (x7.length : Int) then (if 0 ≤ x8 then (if x8 < (x1.length : Int) then (if 0 ≤ x9 then (if x0 = 0 then (none) else (spec_l01Times.l1 k x0 x1 x2 (x7.set ((wrap64 (x8 + x9)) : Int).toNat (Int.tmod (wrap64 ((rd x7 (wrap64 (x8 + x9))) + (wrap64 ((rd x1 x8) * (rd x2 x9))))) x0)) x8 (wrap64 (x9 + 1)))) else (none)) else (none)) else (none)) else (none)) else (none)) else (spec_l01Times.l0 k x0 x1 x2 x7 (wrap64 (x8 + 1)))
end
def spec_l01Times.f (k : Nat) (a0 : Int) (l1 : List Int) (l2 : List Int) : Option (List Int) := if (l1.length : Int) = 0 then (spec_l01Times.j0 k a0 l1 l2 true) else (spec_l01Times.j0 k a0 l1 l2 ((l2.length : Int) == 0))
def spec_l01Times.T10 : Bool × List (List Nat × List Nat) := (true, [([], []), ([], []), ([], []), ([1, 2], [1, 2]), ([], []), ([], []), ([], []), ([5, 6], [5, 6]), ([4, 7], [4, 7]), ([8], [8]), ([], []), ([], []), ([10, 11], [10, 11]), ([12], [12]), ([], []), ([], []), ([14, 15], [14, 15]), ([16], [16]), ([13, 17], [13, 17]), ([9, 18], [9, 18]), ([], []), ([19, 20], [19, 20]), ([0, 3, 0, 1, 2, 3, 4, 5, 6, 7, 8, 9, 10, 11, 12, 13, 14, 15, 16, 17, 18, 19, 20, 21], [0, 3]), ([22, 21, 0, 1, 2, 3, 4, 5, 6, 7, 8, 9, 10, 11, 12, 13, 14, 15, 16, 17, 18, 19, 20, 21], [21, 22])])
def spec_l01Times.B10 : List Nat := [0, 0, 0, 6, 0, 0, 0, 96, 240, 496, 0, 0, 3072, 7168, 0, 0, 49152, 114688, 261120, 524272, 0, 2097136, 4194303, 8388607]
theorem spec_l01Times.tab10 : rtab .any (opsOf Try.f48 10) = spec_l01Times.T10 := by kernel_rfl
theorem spec_l01Times.bits10 : waitsOk spec_l01Times.T10.2 spec_l01Times.B10 = true := by kernel_rfl
set_option maxHeartbeats 8000000 in
set_option maxRecDepth 100000 in
theorem spec_l01Times.calls (k : Nat) (a0 : Int) (A1 : Option Addr) (c1 : Nat) (l1 : List Int) (A2 : Option Addr) (c2 : Nat) (l2 : List Int) (r : List Int) (w : World) (hr1 : Kd.C (Kd.int .i64) w A1 l1.length l1) (hc1 : l1.length ≤ c1) (hr2 : Kd.C (Kd.int .i64) w A2 l2.length l2) (hc2 : l2.length ≤ c2) (h : spec_l01Times.f k a0 l1 l2 = some r) :
  Calls Try.prog 48 #[.int .i64 a0, .slice A1 l1.length c1, .slice A2 l2.length c2] w fun e w' => ∃ v0_ : Value, e = .returned (v0_) ∧ Kd.R (Kd.int .i64) 2 w' w.heap.size (fun _ => True) v0_ r ∧ Below w.heap.size w w' := by
 have HR1 := as0 hr1
 have HC1 := as0 hc1
 clear hr1 hc1
 have HR2 := as0 hr2
 have HC2 := as0 hc2
 clear hr2 hc2
 have HB := as0 (Below.refl w.heap.size w)
 have H : (if (l1.length : Int) = 0 then (spec_l01Times.j0 k a0 l1 l2 true) else (spec_l01Times.j0 k a0 l1 l2 ((l2.length : Int) == 0))) = some r := h
 clear h
 have HC4 := as0 H
 clear H
 go_enter Try.func48, Try.ntmps48
 go_upto_region 1 with (fail)
 go_cut [17] (fun v17 wc => ∃ (kq : Nat) (x17_3 : Bool), v17 = .bool x17_3 ∧ Aside0 (spec_l01Times.j0 kq a0 l1 l2 x17_3 = some r) ∧ Aside0 (kq ≤ k) ∧ Aside0 (Below w.heap.size w wc))
 case first =>
  have H := HC4.out
  clear HC4
  by_cases c5 : (l1.length : Int) = 0
  ·
   rw [if_pos c5] at H
   have c5b0 : ((l1.length : Int) == 0) = true := beq_iff_eq.mpr c5
   have c5b1 : ((l1.length : Int) != 0) = false := bne_eq_false_iff_eq.mpr c5
   clear c5
   (first | rw [c5b0] | (simp only [i64_w, i32_w]; rw [c5b0]) | skip)
   have H' := as0 H
   clear H
   go_wp2
   go_meet
   case rel => exact ⟨_, (true), ea_, H', ⟨by first | omega | exact Nat.le_refl _⟩, ⟨bs HB⟩⟩
  ·
   rw [if_neg c5] at H
   have c5b0 : ((l1.length : Int) == 0) = false := beq_eq_false_iff_ne.mpr c5
   have c5b1 : ((l1.length : Int) != 0) = true := bne_iff_ne.mpr c5
   have c5b2 : ¬ (l1 = []) := fun h_ => c5 (by rw [h_]; rfl)
   (first | rw [c5b0] | (simp only [i64_w, i32_w]; rw [c5b0]) | skip)
   have H' := as0 H
   clear H
   go_wp2
   go_meet
   case rel => exact ⟨_, (((l2.length : Int) == 0)), ea_, H', ⟨by first | omega | exact Nat.le_refl _⟩, ⟨bs HB⟩⟩
 case rest =>
  clear HC4
  try clear c1
  try clear c2
  try clear p2
  try clear c4
  try clear c5
  try clear c5b0
  try clear c5b1
  try clear c5b2
  obtain ⟨kq, x17_3, rfl, HA, HJ3, HB⟩ := hcut
  cases kq with
  | zero => exact absurd HA.out (by simp [spec_l01Times.j0])
  | succ kj3 =>
   have H := HA.out
   clear HA
   simp only [spec_l01Times.j0] at H
   by_cases c6 : x17_3 = true
   ·
    subst c6
    have H1 : (some (([] : List Int))) = some r := by rw [if_pos rfl] at H; exact H
    clear H
    have H := H1
    clear H1
    obtain ⟨y242, hy242⟩ : ∃ y_ : List Int, y_ = (([] : List Int)) := ⟨_, rfl⟩
    replace H : (some y242) = some r := by first | (rw [hy242]; with_reducible exact H) | (have H2_ := (Option.bind_some _ _).symm.trans H; rw [hy242]; with_reducible exact H2_) | (have H2_ := (Option.bind_some _ _).symm.trans H; with_reducible exact H2_) | with_reducible exact H | (rw [hy242]; exact H) | exact H
    have Ny242 := as0 hy242
    clear hy242
    obtain rfl := Option.some.inj H
    go_wp2_with (first | ((with_reducible refine gate_dst (N := 18) rfl ?_); (try (refine gate_guard (by rfl) ?_; dsimp only)); refine Kd.R_lit (Kd.int .i64) _ 2 ?hg (N := 18) ?hd (xs := ([] : List Int)) (inner := []) (ok := fun _ => True) (okp := fun _ => True) ?hr ?hp (fun _ hk => hk) trivial (Below.refl _ _) (Nat.le_refl _) (by simp) ?_; (case hd => rfl); (case hg => rfl); (case hr => first | (go_simp; done) | (go_simp; rfl)); (case hp => exact (Reps.none _ _)); intro v243 w7 ho8 hb hg_ hnew_; clear hg_ hnew_; (first | rw [← Ny242.out] at ho8 | (simp only [Int.reduceToNat] at ho8; rw [← Ny242.out] at ho8)); have n0_ := as0 (Kd.R_lower ho8 (below_size (bs HB))); have n1_ := as0 (below_step (bs HB) hb); clear HB; have HO244 := n0_; have HB := n1_; clear n0_ n1_; clear hb ho8))
    go_ret
    exact ⟨_, er_, rs HO244, bs HB⟩
   ·
    replace c6 := Bool.eq_false_iff.mpr c6
    subst c6
    have H1 : (if 0 ≤ (wrap64 ((wrap64 ((l1.length : Int) + (l2.length : Int))) - 1)) then (if (wrap64 ((wrap64 ((l1.length : Int) + (l2.length : Int))) - 1) : Int).toNat ≤ 35184372088832 then (spec_l01Times.l0 kj3 a0 l1 l2 (List.replicate (wrap64 ((wrap64 ((l1.length : Int) + (l2.length : Int))) - 1) : Int).toNat 0) 0) else (none)) else (none)) = some r := by rw [if_neg (show ¬ (false = true) by decide)] at H; exact H
    clear H
    have H := H1
    clear H1
    obtain ⟨ji9, hji9⟩ : ∃ j_ : Int, (wrap64 ((wrap64 ((l1.length : Int) + (l2.length : Int))) - 1)) = j_ := ⟨_, rfl⟩
    replace H : (if 0 ≤ (ji9) then (if (ji9 : Int).toNat ≤ 35184372088832 then (spec_l01Times.l0 kj3 a0 l1 l2 (List.replicate (ji9 : Int).toNat 0) 0) else (none)) else (none)) = some r := by first | (rw [hji9] at H; exact H) | (simp only [hji9] at H ⊢; exact H)
    have hji9w : (IntKind.i64.wrap ((wrap64 ((l1.length : Int) + (l2.length : Int))) - 1)) = ji9 := (i64_w _).trans hji9
    by_cases c10 : 0 ≤ (ji9)
    ·
     rw [if_pos c10] at H
     have c10b0 := eq_true c10
     have c10b1 : decide (0 ≤ (ji9)) = true := decide_eq_true c10
     clear c10
     by_cases c11 : (ji9 : Int).toNat ≤ 35184372088832
     ·
      rw [if_pos c11] at H
      have c11b0 := eq_true c11
      have c11b1 : decide ((ji9 : Int).toNat ≤ 35184372088832) = true := decide_eq_true c11
      clear c11
      obtain ⟨y245, hy245⟩ : ∃ y_ : List Int, y_ = (List.replicate (ji9 : Int).toNat 0) := ⟨_, rfl⟩
      replace H : (spec_l01Times.l0 kj3 a0 l1 l2 y245 0) = some r := by first | (rw [hy245]; with_reducible exact H) | (have H2_ := (Option.bind_some _ _).symm.trans H; rw [hy245]; with_reducible exact H2_) | (have H2_ := (Option.bind_some _ _).symm.trans H; with_reducible exact H2_) | with_reducible exact H | (rw [hy245]; exact H) | exact H
      have Ny245 := as0 hy245
      clear hy245
      have H' := as0 H
      clear H
      go_wp2_with (first | ((with_reducible refine gate_dst (N := 25) rfl ?_); (try (refine gate_guard (by rfl) ?_; dsimp only)); refine Kd.R_make (Kd.int .i64) _ 2 rfl (N := 25) rfl 22 _ _ rfl ji9 rfl rfl Try.underlying22 (.int .i64 0) 8 info2 rfl (by decide) (by omega) 0 (ok := fun _ => True) (okp := fun _ => True) rfl (fun _ hk => hk) trivial (oa_) (Nat.le_trans (Nat.mul_le_mul_right _ (oa_ : ji9.toNat ≤ 35184372088832)) (by omega)) (Below.refl _ _) (Nat.le_refl _) ?_; intro v246 w12 ho13 hb hg_ hnew_; clear hg_ hnew_; (first | rw [← Ny245.out] at ho13 | (simp only [Int.reduceToNat] at ho13; rw [← Ny245.out] at ho13)); have n0_ := as0 (Kd.R_lower ho13 (below_size (bs HB))); have n1_ := as0 (below_step (bs HB) hb); clear HB; have HO247 := n0_; have HB := n1_; clear n0_ n1_; clear hb ho13))
      go_loopg [8] kj3 (fun kq v8 w' => ∃ (x7_2 : List Int) (x8_2 : Int), v8 = .int .i64 x8_2 ∧ Aside0 (spec_l01Times.l0 kq a0 l1 l2 x7_2 x8_2 = some r) ∧ Aside0 (kq ≤ kj3) ∧ Aside0 (Kd.R (Kd.int .i64) 2 w' w.heap.size (fun _ => True) v246 x7_2) ∧ Aside0 (Below w.heap.size w w'))
      case atStart => exact ⟨(y245), (0), ea_, H', ⟨Nat.le_refl _⟩, ⟨rs HO247⟩, ⟨bs HB⟩⟩
      case round =>
       clear H'
       try clear c1
       try clear c2
       try clear p2
       try clear c4
       try clear c5
       try clear c5b0
       try clear c5b1
       try clear c5b2
       try clear c6
       try clear p6
       try clear c10
       try clear c10b0
       try clear c10b1
       try clear c11
       try clear c11b0
       try clear c11b1
       try clear p2
       obtain ⟨x7_2, x8_2, rfl, HA, HK2, HO_7, HB⟩ := hrel
       cases gk with
       | zero => exact absurd HA.out (by simp [spec_l01Times.l0])
       | succ k2 =>
        have H := HA.out
        clear HA
        simp only [spec_l01Times.l0] at H
        by_cases c14 : x8_2 < (l1.length : Int)
        ·
         rw [if_pos c14] at H
         have c14b0 : decide (x8_2 < (l1.length : Int)) = true := decide_eq_true c14
         clear c14
         have H' := as0 H
         clear H
         go_wp2
         go_loopg [9] k2 (fun kq v9 w' => ∃ (x7_3 : List Int) (x9_3 : Int), v9 = .int .i64 x9_3 ∧ Aside0 (spec_l01Times.l1 kq a0 l1 l2 x7_3 x8_2 x9_3 = some r) ∧ Aside0 (kq ≤ k2) ∧ Aside0 (Kd.R (Kd.int .i64) 2 w' w.heap.size (fun _ => True) v246 x7_3) ∧ Aside0 (Below w.heap.size w w'))
         case atStart => exact ⟨(x7_2), (0), ea_, H', ⟨Nat.le_refl _⟩, ⟨rs HO_7⟩, ⟨bs HB⟩⟩
         case round =>
          clear H'
          try clear c1
          try clear c2
          try clear p2
          try clear c4
          try clear c5
          try clear c5b0
          try clear c5b1
          try clear c5b2
          try clear c6
          try clear p6
          try clear c10
          try clear c10b0
          try clear c10b1
          try clear c11
          try clear c11b0
          try clear c11b1
          try clear c14
          try clear c14b0
          try clear p2
          try clear p6
          obtain ⟨x7_3, x9_3, rfl, HA, HK3, HO_7, HB⟩ := hrel
          cases gk with
          | zero => exact absurd HA.out (by simp [spec_l01Times.l1])
          | succ k3 =>
           have H := HA.out
           clear HA
           simp only [spec_l01Times.l1] at H
           by_cases c15 : x9_3 < (l2.length : Int)
           ·
            rw [if_pos c15] at H
            have c15b0 : decide (x9_3 < (l2.length : Int)) = true := decide_eq_true c15
            clear c15
            obtain ⟨ji16, hji16⟩ : ∃ j_ : Int, (wrap64 (x8_2 + x9_3)) = j_ := ⟨_, rfl⟩
            replace H : (if 0 ≤ (ji16) then (if (ji16) < (x7_3.length : Int) then (if 0 ≤ x8_2 then (if x8_2 < (l1.length : Int) then (if 0 ≤ x9_3 then (if a0 = 0 then (none) else (spec_l01Times.l1 k3 a0 l1 l2 (x7_3.set ((ji16) : Int).toNat (Int.tmod (wrap64 ((rd x7_3 (ji16)) + (wrap64 ((rd l1 x8_2) * (rd l2 x9_3))))) a0)) x8_2 (wrap64 (x9_3 + 1)))) else (none)) else (none)) else (none)) else (none)) else (none)) = some r := by first | (rw [hji16] at H; exact H) | (simp only [hji16] at H ⊢; exact H)
            have hji16w : (IntKind.i64.wrap (x8_2 + x9_3)) = ji16 := (i64_w _).trans hji16
            by_cases c17 : 0 ≤ (ji16)
            ·
             rw [if_pos c17] at H
             have c17b0 : decide (0 ≤ (ji16)) = true := decide_eq_true c17
             clear c17
             by_cases c18 : (ji16) < (x7_3.length : Int)
             ·
              rw [if_pos c18] at H
              have c18b0 : decide ((ji16) < (x7_3.length : Int)) = true := decide_eq_true c18
              clear c18
              by_cases c19 : 0 ≤ x8_2
              ·
               rw [if_pos c19] at H
               have c19b0 : decide (0 ≤ x8_2) = true := decide_eq_true c19
               clear c19
               by_cases c20 : x8_2 < (l1.length : Int)
               ·
                rw [if_pos c20] at H
                have c20b0 : decide (x8_2 < (l1.length : Int)) = true := decide_eq_true c20
                clear c20
                by_cases c21 : 0 ≤ x9_3
                ·
                 rw [if_pos c21] at H
                 have c21b0 : decide (0 ≤ x9_3) = true := decide_eq_true c21
                 clear c21
                 by_cases c22 : a0 = 0
                 ·
                  rw [if_pos c22] at H
                  exact absurd H (by simp)
                 ·
                  rw [if_neg c22] at H
                  have c22b0 : (a0 == 0) = false := beq_eq_false_iff_ne.mpr c22
                  have c22b1 : (a0 != 0) = true := bne_iff_ne.mpr c22
                  obtain ⟨y254, hy254⟩ : ∃ y_ : List Int, y_ = (x7_3.set ((ji16) : Int).toNat (Int.tmod (wrap64 ((rd x7_3 (ji16)) + (wrap64 ((rd l1 x8_2) * (rd l2 x9_3))))) a0)) := ⟨_, rfl⟩
                  replace H : (spec_l01Times.l1 k3 a0 l1 l2 y254 x8_2 (wrap64 (x9_3 + 1))) = some r := by first | (rw [hy254]; with_reducible exact H) | (have H2_ := (Option.bind_some _ _).symm.trans H; rw [hy254]; with_reducible exact H2_) | (have H2_ := (Option.bind_some _ _).symm.trans H; with_reducible exact H2_) | with_reducible exact H | (rw [hy254]; exact H) | exact H
                  have Ny254 := as0 hy254
                  clear hy254
                  have H' := as0 H
                  clear H
                  try go_wp2
                  have n0_ := as0 (Kd.R_drew HO_7.out)
                  have n1_ := as0 (below_drew1 HB.out)
                  clear HO_7
                  clear HB
                  have HO_7 := n0_
                  have HB := n1_
                  clear n0_ n1_
                  obtain ⟨Ao25, co25, eo25⟩ := Kd.R_slice HO_7.out
                  (first | subst eo25 | (injection eo25 with f1_ f2_ f3_; have f4_ := f1_.symm; have f5_ := f3_.symm; clear f1_ f2_ f3_; subst f4_; subst f5_))
                  have p251 : 0 ≤ ((ji16) : Int) := oa_
                  have q251 : (ji16) < (x7_3.length : Int) := oa_
                  obtain ⟨ad251, e251, hx251_0⟩ := Kd.at_int (Kd.R_reads' HO_7.out).2.2 (ji16) p251 q251
                  cases e251
                  replace p251 := eq_true p251
                  replace q251 := eq_true q251
                  have p252 : 0 ≤ (x8_2 : Int) := oa_
                  have q252 : x8_2 < (l1.length : Int) := oa_
                  obtain ⟨ad252, e252, hx252_0⟩ := Kd.at_int HR1.out x8_2 p252 q252
                  have hw252_0 := hx252_0
                  cases e252
                  replace hx252_0 := (HB.out.cell (World.block_lt_of_cell? w _ hx252_0)).trans hx252_0
                  replace p252 := eq_true p252
                  replace q252 := eq_true q252
                  have p253 : 0 ≤ (x9_3 : Int) := oa_
                  have q253 : x9_3 < (l2.length : Int) := oa_
                  obtain ⟨ad253, e253, hx253_0⟩ := Kd.at_int HR2.out x9_3 p253 q253
                  have hw253_0 := hx253_0
                  cases e253
                  replace hx253_0 := (HB.out.cell (World.block_lt_of_cell? w _ hx253_0)).trans hx253_0
                  replace p253 := eq_true p253
                  replace q253 := eq_true q253
                  have p23 : 0 ≤ ((ji16) : Int) := oa_
                  have q23 : ((ji16) : Int) < ((x7_3.length : Int) : Int) := oa_
                  obtain ⟨go23, co23, eo23, gb23, gl23, cl23, HG23⟩ := Kd.R_form HO_7.out (by omega)
                  (first | cases eo23 | (injection eo23 with ea_ en_ ec_; (first | subst ea_ | (injection ea_ with ea_; subst ea_)); subst ec_; clear en_))
                  have GB23 := as0 gb23
                  have GG23 := as0 HG23
                  clear gb23 gl23 HG23
                  (first | simp only [add_plain] at hx251_0 | skip)
                  obtain ⟨hx23_0, hf23_0⟩ := Kd.R_celln 0 HO_7.out ((ji16) : Int) p23 q23
                  replace p23 := eq_true p23
                  replace q23 := eq_true q23
                  have HP26 := Kd.R_putn HO_7.out ((ji16) : Int) (Int.tmod (wrap64 ((rd x7_3 (ji16)) + (wrap64 ((rd l1 x8_2) * (rd l2 x9_3))))) a0)
                  rw [← Ny254.out] at HP26
                  have HQ26 := as0 HP26
                  clear HP26
                  refine start_ (n := 24) (S := fun w' => w'.cell? ⟨go23, ((ji16)).toNat, none⟩ = some (.int .i64 (rd x7_3 (ji16))) ∧ w'.cell? (ad252.add (x8_2).toNat) = some (.int .i64 (rd l1 x8_2)) ∧ w'.cell? (ad253.add (x9_3).toNat) = some (.int .i64 (rd l2 x9_3))) (ds := [23]) #[false, false, false, false, false, false, false, false, false, false, false, false, false, false, false, false, false, false, false, false, false, false, false, false] (by kernel_rfl) rfl rfl ⟨hx251_0, ((HB.out.cell (World.block_lt_of_cell? w _ hw252_0)).trans hw252_0), ((HB.out.cell (World.block_lt_of_cell? w _ hw253_0)).trans hw253_0)⟩ (fun hHeld => ?_); refine with_tabW spec_l01Times.tab10 spec_l01Times.bits10 (fun HT_ HW_ => ?_)
                  generalize wr.drew = w24 at HO_7 HB GG23 HQ26 hf23_0 hx23_0 hx251_0 hx252_0 hx253_0 hHeld ⊢
                  refine pm_ HT_ (i := 0) (N := some 38) ?_
                  refine pm_ HT_ (i := 1) (N := some 39) ?_
                  refine pm_ HT_ (i := 2) (N := some 40) ?_
                  refine pm_ HT_ (i := 3) (N := some 41) ?_
                  refine pm_ HT_ (i := 4) (N := some 42) ?_
                  refine pm_ HT_ (i := 5) (N := some 43) ?_
                  refine pm_ HT_ (i := 6) (N := some 44) ?_
                  refine pm_ HT_ (i := 7) (N := some 45) ?_
                  refine pm_ HT_ (i := 8) (N := some 46) ?_
                  refine pm_ HT_ (i := 10) (N := some 48) ?_
                  refine pm_ HT_ (i := 11) (N := some 49) ?_
                  refine pm_ HT_ (i := 12) (N := some 50) ?_
                  refine pm_ HT_ (i := 14) (N := some 52) ?_
                  refine pm_ HT_ (i := 15) (N := some 53) ?_
                  refine pm_ HT_ (i := 16) (N := some 54) ?_
                  refine pm_ HT_ (i := 20) (N := some 58) ?_
                  refine tm3_ HT_ HW_ (i := 9) (N := some 47) hHeld ?_
                  refine tm3_ HT_ HW_ (i := 13) (N := some 51) hHeld ?_
                  refine tm3_ HT_ HW_ (i := 17) (N := some 55) hHeld ?_
                  refine pm_ HT_ (i := 18) (N := some 56) ?_
                  refine pm_ HT_ (i := 19) (N := some 57) ?_
                  refine pm_ HT_ (i := 21) (N := some 59) ?_
                  refine pm_ HT_ (i := 22) (N := some 60) ?_
                  refine last_ (i := 23) (N := none) #[true, true, true, true, true, true, true, true, true, true, true, true, true, true, true, true, true, true, true, true, true, true, true, true] rfl rfl (one_of HT_.out (by kernel_rfl)) (by decide) (fun K hK => ?_)
                  refine skip_ (w1 := ?_) (by rfl) rfl ?_ ?_
                  rotate_left
                  ·
                   go_simp
                   rfl
                  refine hK.out _ _ ?_
                  clear hK K
                  refine done_ (done_of HT_.out (by kernel_rfl)) ?_
                  try go_wp2
                  go_roundg k3
                  case measure => have := HJ3.out; have := HK2.out; have := HK3.out; omega
                  case rel => exact ⟨(y254), (wrap64 (x9_3 + 1)), ea_, H', ⟨by have := HJ3.out; have := HK2.out; have := HK3.out; omega⟩, ⟨by (with_reducible repeat (first | apply Kd.R_alloc | apply Kd.R_drewN | apply Kd.R_drew)); exact HQ26.out⟩, ⟨by repeat (first | (with_reducible first | exact HB.out | apply below_alloc | apply pw_below_drewN | apply below_drew1 | refine below_set ?_ GB23.out) | exact HB.out)⟩⟩
                ·
                 rw [if_neg c21] at H
                 exact absurd H (by simp)
               ·
                rw [if_neg c20] at H
                exact absurd H (by simp)
              ·
               rw [if_neg c19] at H
               exact absurd H (by simp)
             ·
              rw [if_neg c18] at H
              exact absurd H (by simp)
            ·
             rw [if_neg c17] at H
             exact absurd H (by simp)
           ·
            rw [if_neg c15] at H
            have c15b0 : decide (x9_3 < (l2.length : Int)) = false := decide_eq_false c15
            clear c15
            have H' := as0 H
            clear H
            go_wp2
            go_roundg k3
            case measure => have := HJ3.out; have := HK2.out; have := HK3.out; omega
            case rel => exact ⟨(x7_3), (wrap64 (x8_2 + 1)), ea_, H', ⟨by have := HJ3.out; have := HK2.out; have := HK3.out; omega⟩, ⟨rs HO_7⟩, ⟨bs HB⟩⟩
        ·
         rw [if_neg c14] at H
         have c14b0 : decide (x8_2 < (l1.length : Int)) = false := decide_eq_false c14
         clear c14
         replace H := Option.bind_eq_some_iff.mp H
         obtain ⟨t248, A270, H⟩ := H
         have A27 := as0 A270
         clear A270
         obtain rfl := Option.some.inj H
         obtain ⟨Ao28, co28, eo28⟩ := Kd.R_slice HO_7.out
         subst eo28
         go_wp2_with (first | ((with_reducible refine gate_callee (f := 82) rfl ?_); refine goesM_ (some 62) rfl rfl Try.func82 #[.slice Ao28 x7_2.length co28] rfl ?_; (with_reducible refine (spec_l01Trim.calls k2 _ _ x7_2 t248 _ ?side1 ?side2 A27.out).mono ?_); (case side1 => exact cs ((Kd.R_reads' HO_7.out).2.2)); (case side2 => exact (Kd.R_reads' HO_7.out).2.1); rintro e w29 ⟨v249, rfl, ho0, hb⟩; refine ⟨_, rfl, ?_⟩; have n0_ := as0 (Kd.R_elder' (rs HO_7) (Kd.R_base ho0) hb); have n1_ := as0 (Kd.R_lower (Kd.R_new' ho0 (Kd.R_lt (rs HO_7))) (below_size (bs HB))); have n2_ := as0 (below_step (bs HB) hb); clear HO_7; clear HB; have HO_7 := n0_; have HO250 := n1_; have HB := n2_; clear n0_ n1_ n2_; (try clear hb); (try clear hb2); (try clear hk); (try clear hi); (try clear ho0)))
         go_ret
         exact ⟨_, by first | rfl | (simp [errW_none, errW_some] <;> rfl) | (simp only [← hji9]; first | rfl | (simp [errW_none, errW_some] <;> rfl)) | (simp [*, errW_none, errW_some] <;> rfl), by (with_reducible repeat (first | apply Kd.R_alloc | apply Kd.R_drewN | apply Kd.R_drew)); exact Kd.R_mono HO250.out (fun _ hk => trivial), bs HB⟩
     ·
      rw [if_neg c11] at H
      exact absurd H (by simp)
    ·
     rw [if_neg c10] at H
     exact absurd H (by simp)
end Go.Proofs.Ytlmolloallhclaa.H
set_option linter.unusedVariables false
set_option linter.unusedSimpArgs false
namespace Go.Proofs.Ytlmolloallhclaa.H
open Go.RowKit Go.Proofs.YtlmolloallhclaaW.PrintWords Go.Proofs.YtlmolloallhclaaW.PrintLast Go.Proofs.Ytlmolloallhclaa.Num
def pr1 (p x : Int) (g : List Int) (i : Nat) : List Int → Nat → Nat → List Int
 | acc, _, 0 => acc
 | acc, j, d + 1 => pr1 p x g i (acc.set (i + j) ((acc.getD (i + j) 0 + x * g.getD j 0) % p)) (j + 1) d
def pr0 (p : Int) (f g : List Int) : List Int → Nat → Nat → List Int
 | acc, _, 0 => acc
 | acc, i, d + 1 => pr0 p f g (pr1 p (f.getD i 0) g i acc 0 g.length) (i + 1) d
def mulW (p : Int) (f g : List Int) : List Int := pr0 p f g (List.replicate (f.length + g.length - 1) 0) 0 f.length
def mulL (p : Int) (f g : List Int) : List Int := if f.length = 0 ∨ g.length = 0 then [] else trimL (mulW p f g)
theorem pr1_len (p x : Int) (g : List Int) (i : Nat) : ∀ d j acc, (pr1 p x g i acc j d).length = acc.length
 | 0, _, _ => rfl
 | d + 1, j, acc => by simp [pr1, pr1_len p x g i d]
theorem pr0_len (p : Int) (f g : List Int) : ∀ d i acc, (pr0 p f g acc i d).length = acc.length
 | 0, _, _ => rfl
 | d + 1, i, acc => by simp [pr0, pr0_len p f g d, pr1_len]
theorem pr1_inR {p x : Int} (hp : 0 < p) (g : List Int) (i : Nat) : ∀ d j acc, InR p acc → InR p (pr1 p x g i acc j d)
 | 0, _, _, h => h
 | d + 1, j, acc, h => pr1_inR hp g i d (j + 1) _ (h.set _ (emod_bd hp))
theorem pr0_inR {p : Int} (hp : 0 < p) (f g : List Int) : ∀ d i acc, InR p acc → InR p (pr0 p f g acc i d)
 | 0, _, _, h => h
 | d + 1, i, acc, h => pr0_inR hp f g d (i + 1) _ (pr1_inR hp g i _ _ _ h)
theorem mulW_len (p : Int) (f g : List Int) : (mulW p f g).length = f.length + g.length - 1 := by simp [mulW, pr0_len]
theorem mulW_inR {p : Int} (hp : 0 < p) (f g : List Int) : InR p (mulW p f g) := pr0_inR hp f g _ _ _ (InR.zeros hp _)
theorem mulL_inR {p : Int} (hp : 0 < p) (f g : List Int) : InR p (mulL p f g) := by
 unfold mulL; split
 ·
  exact InR.nil
 ·
  exact (mulW_inR hp f g).trim
theorem mulL_len (p : Int) (f g : List Int) : (mulL p f g).length ≤ f.length + g.length - 1 := by
 unfold mulL; split
 ·
  simp
 ·
  have := trimL_len (mulW p f g); rw [mulW_len] at this; exact this
theorem spec_step {p : Int} {f g acc : List Int} (k i j : Nat) (hp : 2 ≤ p) (hi : i < f.length) (hj : j < g.length) (hL : i + j < acc.length) (h5 : i + j ≤ 100000)
  (hb : 0 ≤ f.getD i 0 * g.getD j 0 ∧ f.getD i 0 * g.getD j 0 ≤ 1000700000) (ha : 0 ≤ acc.getD (i + j) 0 ∧ acc.getD (i + j) 0 ≤ 100000) :
  spec_l01Times.l1 (k + 1) p f g acc (i : Int) (j : Int) = spec_l01Times.l1 k p f g (acc.set (i + j) ((acc.getD (i + j) 0 + f.getD i 0 * g.getD j 0) % p)) (i : Int) ((j + 1 : Nat) : Int) := by
 have hw : wrap64 ((i : Int) + (j : Int)) = ((i + j : Nat) : Int) := by rw [w64 (by omega) (by omega)]; omega
 have q1 : (j : Int) < (g.length : Int) := by omega
 have q2 : (0 : Int) ≤ ((i + j : Nat) : Int) := by omega
 have q3 : ((i + j : Nat) : Int) < (acc.length : Int) := by omega
 have q4 : (0 : Int) ≤ (i : Int) := by omega
 have q5 : (i : Int) < (f.length : Int) := by omega
 have q6 : (0 : Int) ≤ (j : Int) := by omega
 have q7 : ¬ p = 0 := by omega
 have w1 : wrap64 (f.getD i 0 * g.getD j 0) = f.getD i 0 * g.getD j 0 := w64 (by omega) (by omega)
 have w2 : wrap64 (acc.getD (i + j) 0 + f.getD i 0 * g.getD j 0) = acc.getD (i + j) 0 + f.getD i 0 * g.getD j 0 := w64 (by omega) (by omega)
 have w3 : wrap64 ((j : Int) + 1) = ((j + 1 : Nat) : Int) := wn (by omega)
 have w4 : Int.tmod (acc.getD (i + j) 0 + f.getD i 0 * g.getD j 0) p = (acc.getD (i + j) 0 + f.getD i 0 * g.getD j 0) % p := tmod_nn (by omega)
 simp only [spec_l01Times.l1, hw]
 rw [if_pos q1, if_pos q2, if_pos q3, if_pos q4, if_pos q5, if_pos q6, if_neg q7, rd_nat, rd_nat, rd_nat, w1, w2, w3, w4, Int.toNat_natCast]
set_option maxHeartbeats 2000000 in
theorem spec_product {p : Int} {f g : List Int} (hp : 2 ≤ p) (hp2 : p ≤ 10007) (hf : f.length ≤ 1000) (hg : g.length ≤ 1000) (rf : InR p f) (rg : InR p g) : Ev (fun k => spec_l01Times.f k p f g) (mulL p f g) := by
 have inner : ∀ (i : Nat) (r : List Int), i < f.length → ∀ d j (acc : List Int), j + d = g.length → acc.length = f.length + g.length - 1 → InR p acc →
   Ev (fun k => spec_l01Times.l0 k p f g (pr1 p (f.getD i 0) g i acc j d) ((i + 1 : Nat) : Int)) r → Ev (fun k => spec_l01Times.l1 k p f g acc (i : Int) (j : Int)) r := by
  intro i r hi d
  induction d with
  | zero =>
   intro j acc h1 h2 h3 ⟨K, h⟩
   refine ⟨K + 1, fun k hk => ?_⟩
   obtain ⟨k, rfl⟩ : ∃ m, k = m + 1 := ⟨k - 1, by omega⟩
   have e := h k (by omega)
   simp only [pr1] at e
   simp only [spec_l01Times.l1]
   rw [if_neg (by omega), wn (by omega), e]
  | succ d ih =>
   intro j acc h1 h2 h3 h
   obtain ⟨K, h⟩ := ih (j + 1) (acc.set (i + j) ((acc.getD (i + j) 0 + f.getD i 0 * g.getD j 0) % p)) (by omega) (by simpa using h2) (h3.set _ (emod_bd (by omega))) h
   refine ⟨K + 1, fun k hk => ?_⟩
   obtain ⟨k, rfl⟩ : ∃ m, k = m + 1 := ⟨k - 1, by omega⟩
   have e := h k (by omega)
   simp only at e
   have hb := mul_bd2 hp2 (rf.get (by omega) i) (y := g.getD j 0) (by have := rg.get (by omega) j; omega)
   have ha := h3.get (by omega) (i + j)
   exact (spec_step k i j hp hi (by omega) (by omega) (by omega) hb ⟨ha.1, by omega⟩).trans e
 have outer : ∀ d i (acc : List Int), i + d = f.length → acc.length = f.length + g.length - 1 → InR p acc → Ev (fun k => spec_l01Times.l0 k p f g acc (i : Int)) (trimL (pr0 p f g acc i d)) := by
  intro d
  induction d with
  | zero =>
   intro i acc h1 h2 h3
   obtain ⟨K, h⟩ := spec_trim acc (by omega)
   refine ⟨K + 1, fun k hk => ?_⟩
   obtain ⟨k, rfl⟩ : ∃ m, k = m + 1 := ⟨k - 1, by omega⟩
   have e := h k (by omega)
   simp only at e
   simp only [spec_l01Times.l0]
   rw [if_neg (by omega), e]
   simp [pr0]
  | succ d ih =>
   intro i acc h1 h2 h3
   have hin := inner i _ (by omega) g.length 0 acc (by omega) h2 h3 (ih (i + 1) (pr1 p (f.getD i 0) g i acc 0 g.length) (by omega) (by rw [pr1_len]; exact h2) (pr1_inR (by omega) g i _ _ _ h3))
   obtain ⟨K, h⟩ := hin
   refine ⟨K + 1, fun k hk => ?_⟩
   obtain ⟨k, rfl⟩ : ∃ m, k = m + 1 := ⟨k - 1, by omega⟩
   have e := h k (by omega)
   simp only [Int.natCast_zero] at e
   simp only [spec_l01Times.l0]
   rw [if_pos (by omega), e]
   rfl
 unfold mulL
 by_cases h0 : f.length = 0 ∨ g.length = 0
 ·
  rw [if_pos h0]
  refine ⟨1, fun k hk => ?_⟩
  obtain ⟨k, rfl⟩ : ∃ m, k = m + 1 := ⟨k - 1, by omega⟩
  simp only [spec_l01Times.f]
  by_cases hf0 : (f.length : Int) = 0
  ·
   rw [if_pos hf0]; simp only [spec_l01Times.j0, if_true]
  ·
   rw [if_neg hf0]
   have hz : ((g.length : Int) == 0) = true := beq_iff_eq.mpr (by omega)
   rw [hz]; simp only [spec_l01Times.j0, if_true]
 ·
  rw [if_neg h0]
  obtain ⟨K, h⟩ := outer f.length 0 (List.replicate (f.length + g.length - 1) 0) (by omega) (by simp) (InR.zeros (by omega) _)
  refine ⟨K + 1, fun k hk => ?_⟩
  obtain ⟨k, rfl⟩ : ∃ m, k = m + 1 := ⟨k - 1, by omega⟩
  have e := h k (by omega)
  simp only [Int.natCast_zero] at e
  have hz : ((g.length : Int) == 0) = false := beq_eq_false_iff_ne.mpr (by omega)
  have hw : wrap64 (wrap64 ((f.length : Int) + (g.length : Int)) - 1) = ((f.length + g.length - 1 : Nat) : Int) := by rw [w64 (x := (f.length : Int) + (g.length : Int)) (by omega) (by omega), w64 (by omega) (by omega)]; omega
  simp only [spec_l01Times.f]
  rw [if_neg (by omega), hz]
  simp only [spec_l01Times.j0, hw, Bool.false_eq_true, if_false]
  rw [if_pos (by omega), if_pos (by omega), Int.toNat_natCast, e]
  rfl
theorem trimL_id {l : List Int} (h : l.length = 0 ∨ l.getD (l.length - 1) 0 ≠ 0) : trimL l = l := by
 unfold trimL
 rcases h with h | h
 ·
  rw [h]; simp [tlen]; exact List.eq_nil_of_length_eq_zero h
 ·
  obtain ⟨n, hn⟩ : ∃ n, l.length = n + 1 ∨ l.length = 0 := ⟨l.length - 1, by omega⟩
  rcases hn with hn | hn
  ·
   rw [hn] at h ⊢
   simp only [Nat.add_sub_cancel] at h
   simp only [tlen, if_neg h]
   exact List.take_of_length_le (by omega)
  ·
   rw [hn]; simp [tlen]; exact List.eq_nil_of_length_eq_zero hn
theorem mul_ne0 {p x y : Int} (hp : IsP p) (hx : 0 < x ∧ x < p) (hy : 0 < y ∧ y < p) : x * y % p ≠ 0 := by
 intro h
 obtain ⟨a, rfl⟩ : ∃ a : Nat, x = a := ⟨x.toNat, by omega⟩
 obtain ⟨b, rfl⟩ : ∃ b : Nat, y = b := ⟨y.toNat, by omega⟩
 obtain ⟨n, hn⟩ : ∃ n : Nat, p = n := ⟨p.toNat, by have := hp.1; omega⟩
 subst hn
 have hd : n ∣ a * b := by
  apply Nat.dvd_of_mod_eq_zero
  have : ((a * b % n : Nat) : Int) = 0 := by simpa using h
  omega
 have hpr : Pr n := by simpa using hp.2.2
 rcases hpr.euclid hd with h' | h'
 ·
  have := Nat.le_of_dvd (by omega) h'; omega
 ·
  have := Nat.le_of_dvd (by omega) h'; omega
theorem Po.last_bd {p : Int} {f : List Int} (h : Po p f) (hp : 0 < p) (h0 : 0 < f.length) : 0 < f.getD (f.length - 1) 0 ∧ f.getD (f.length - 1) 0 < p := by
 have h1 := h.inR.get hp (f.length - 1)
 rcases h.last with h2 | h2
 ·
  omega
 ·
  rw [show (f.length : Int) - 1 = ((f.length - 1 : Nat) : Int) by omega, rd_nat] at h2
  omega
end Go.Proofs.Ytlmolloallhclaa.H
namespace Go.Proofs.Ytlmolloallhclaa.H
open Go.RowKit Go.Proofs.YtlmolloallhclaaW.PrintWords Go.Proofs.YtlmolloallhclaaW.PrintLast Go.Proofs.YtlmolloallhclaaW.PrintMore
attribute [local go_sem] max2_int min2_int max_two min_two max_three min_three max_four min_four   -- for this text's walks alone
set_option linter.unusedVariables false
set_option linter.unusedSimpArgs false
mutual
def spec_l01Divide.l0 : Nat → Int → List Int → List Int → Int → List Int → Int → Int → Option (List Int × List Int)
 | 0, _, _, _, _, _, _, _ => none
 | k + 1, x0, x2, x8, x9, x10, x11, x12 => if x12 ≥ 0 then (if 0 ≤ (wrap64 ((wrap64 (x12 + x9)) - 1)) then (if (wrap64 ((wrap64 (x12 + x9)) - 1)) < (x8.length : Int) then (if x0 = 0 then (none) else (if 0 ≤ x12 then (if x12 < (x10.length : Int) then (spec_l01Divide.l1 k x0 x2 x8 x9 (x10.set (x12 : Int).toNat (Int.tmod (wrap64 ((rd x8 (wrap64 ((wrap64 (x12 + x9)) - 1))) * x11)) x0)) x11 x12 (Int.tmod (wrap64 ((rd x8 (wrap64 ((wrap64 (x12 + x9)) - 1))) * x11)) x0) 0) else (none)) else (none))) else (none)) else (none)) else ((spec_l01Trim.f k x10).bind fun t136 => ((spec_l01Trim.f k x8).bind fun t139 => (some (t136, t139))))
def spec_l01Divide.l1 : Nat → Int → List Int → List Int → Int → List Int → Int → Int → Int → Int → Option (List Int × List Int)
 | 0, _, _, _, _, _, _, _, _, _ => none
 | k + 1, x0, x2, x8, x9, x10, x11, x12, x13, x14 => if x14 < x9 then (if 0 ≤ (wrap64 (x12 + x14)) then (if (wrap64 (x12 + x14)) < (x8.length : Int) then (if 0 ≤ x14 then (if x14 < (x2.length : Int) then ((spec_l01Mod.f x0 (wrap64 ((rd x8 (wrap64 (x12 + x14))) - (wrap64 (x13 * (rd x2 x14)))))).bind fun t146 => (spec_l01Divide.l1 k x0 x2 (x8.set ((wrap64 (x12 + x14)) : Int).toNat t146) x9 x10 x11 x12 x13 (wrap64 (x14 + 1)))) else (none)) else (none)) else (none)) else (none)) else (spec_l01Divide.l0 k x0 x2 x8 x9 x10 x11 (wrap64 (x12 - 1)))
end
def spec_l01Divide.f (k : Nat) (a0 : Int) (l1 : List Int) (l2 : List Int) : Option (List Int × List Int) := (spec_l01Own.f l1).bind fun t125 => (if (l1.length : Int) < (l2.length : Int) then (some ((([] : List Int)), t125)) else (if 0 ≤ (wrap64 ((wrap64 ((l1.length : Int) - (l2.length : Int))) + 1)) then (if (wrap64 ((wrap64 ((l1.length : Int) - (l2.length : Int))) + 1) : Int).toNat ≤ 35184372088832 then (if 0 ≤ (wrap64 ((l2.length : Int) - 1)) then (if (wrap64 ((l2.length : Int) - 1)) < (l2.length : Int) then ((spec_l01Inverse.f k a0 (rd l2 (wrap64 ((l2.length : Int) - 1)))).bind fun t135 => (spec_l01Divide.l0 k a0 l2 t125 (l2.length : Int) (List.replicate (wrap64 ((wrap64 ((l1.length : Int) - (l2.length : Int))) + 1) : Int).toNat 0) t135 (wrap64 ((l1.length : Int) - (l2.length : Int))))) else (none)) else (none)) else (none)) else (none)))
def spec_l01Divide.T4 : Bool × List (List Nat × List Nat) := (true, [([], []), ([0], [0]), ([], []), ([1, 2], [1, 2]), ([3], [3]), ([4, 4], [4]), ([], []), ([], []), ([], []), ([8], [8]), ([7, 9], [7, 9]), ([10], [10]), ([6, 11], [6, 11]), ([5, 12, 0, 1, 2, 3, 4, 5], [5]), ([12, 13, 0, 1, 2, 3, 4, 5, 6, 7, 8, 9, 10, 11, 12, 13], [12])])
def spec_l01Divide.B4 : List Nat := [0, 1, 0, 7, 15, 31, 0, 0, 0, 256, 896, 1920, 4032, 8191, 16383]
theorem spec_l01Divide.tab4 : rtab .any (opsOf Try.f42 4) = spec_l01Divide.T4 := by kernel_rfl
theorem spec_l01Divide.bits4 : waitsOk spec_l01Divide.T4.2 spec_l01Divide.B4 = true := by kernel_rfl
def spec_l01Divide.T13 : Bool × List (List Nat × List Nat) := (true, [([], []), ([], []), ([], []), ([1, 2], [1, 2]), ([], []), ([], []), ([], []), ([], []), ([6, 7], [6, 7]), ([5, 8], [5, 8]), ([9], [9]), ([], []), ([], []), ([], []), ([12, 13], [12, 13]), ([14], [14]), ([11, 15], [11, 15]), ([10, 16], [10, 16]), ([4, 17], [4, 17]), ([0, 3, 0, 1, 2, 3, 4, 5, 6, 7, 8, 9, 10, 11, 12, 13, 14, 15, 16, 17, 18], [0, 3]), ([19, 18, 18, 0, 1, 2, 3, 4, 5, 6, 7, 8, 9, 10, 11, 12, 13, 14, 15, 16, 17, 18], [18, 19])])
def spec_l01Divide.B13 : List Nat := [0, 0, 0, 6, 0, 0, 0, 0, 192, 480, 992, 0, 0, 0, 12288, 28672, 63488, 131040, 262128, 524287, 1048575]
theorem spec_l01Divide.tab13 : rtab .any (opsOf Try.f42 13) = spec_l01Divide.T13 := by kernel_rfl
theorem spec_l01Divide.bits13 : waitsOk spec_l01Divide.T13.2 spec_l01Divide.B13 = true := by kernel_rfl
set_option maxHeartbeats 8000000 in
set_option maxRecDepth 100000 in
theorem spec_l01Divide.calls (k : Nat) (a0 : Int) (A1 : Option Addr) (c1 : Nat) (l1 : List Int) (A2 : Option Addr) (c2 : Nat) (l2 : List Int) (r1 : List Int) (r2 : List Int) (w : World) (hr1 : Kd.C (Kd.int .i64) w A1 l1.length l1) (hc1 : l1.length ≤ c1) (hr2 : Kd.C (Kd.int .i64) w A2 l2.length l2) (hc2 : l2.length ≤ c2) (h : spec_l01Divide.f k a0 l1 l2 = some (r1, r2)) :
  Calls Try.prog 42 #[.int .i64 a0, .slice A1 l1.length c1, .slice A2 l2.length c2] w fun e w' => ∃ v0_ v1_ : Value, e = .returned (.tuple #[v0_, v1_]) ∧ Kd.R (Kd.int .i64) 2 w' w.heap.size (fun k_ => some k_ ≠ (v1_ : Value).ownBlock) v0_ r1 ∧ Kd.R (Kd.int .i64) 2 w' w.heap.size (fun k_ => some k_ ≠ (v0_ : Value).ownBlock) v1_ r2 ∧ Below w.heap.size w w' := by
 have HR1 := as0 hr1
 have HC1 := as0 hc1
 clear hr1 hc1
 have HR2 := as0 hr2
 have HC2 := as0 hc2
 clear hr2 hc2
 have HB := as0 (Below.refl w.heap.size w)
 have H : ((spec_l01Own.f l1).bind fun t125 => (if (l1.length : Int) < (l2.length : Int) then (some ((([] : List Int)), t125)) else (if 0 ≤ (wrap64 ((wrap64 ((l1.length : Int) - (l2.length : Int))) + 1)) then (if (wrap64 ((wrap64 ((l1.length : Int) - (l2.length : Int))) + 1) : Int).toNat ≤ 35184372088832 then (if 0 ≤ (wrap64 ((l2.length : Int) - 1)) then (if (wrap64 ((l2.length : Int) - 1)) < (l2.length : Int) then ((spec_l01Inverse.f k a0 (rd l2 (wrap64 ((l2.length : Int) - 1)))).bind fun t135 => (spec_l01Divide.l0 k a0 l2 t125 (l2.length : Int) (List.replicate (wrap64 ((wrap64 ((l1.length : Int) - (l2.length : Int))) + 1) : Int).toNat 0) t135 (wrap64 ((l1.length : Int) - (l2.length : Int))))) else (none)) else (none)) else (none)) else (none)))) = some (r1, r2) := h
 clear h
 replace H := Option.bind_eq_some_iff.mp H
 obtain ⟨t125, A40, H⟩ := H
 have A4 := as0 A40
 clear A40
 by_cases c5 : (l1.length : Int) < (l2.length : Int)
 ·
  rw [if_pos c5] at H
  have c5b0 : decide ((l1.length : Int) < (l2.length : Int)) = true := decide_eq_true c5
  have c5b1 : decide (l1.length < l2.length) = true := decide_eq_true (Int.ofNat_lt.mp c5)
  clear c5
  obtain ⟨y128, hy128⟩ : ∃ y_ : List Int, y_ = (([] : List Int)) := ⟨_, rfl⟩
  replace H : (some (y128, t125)) = some (r1, r2) := by first | (rw [hy128]; with_reducible exact H) | (have H2_ := (Option.bind_some _ _).symm.trans H; rw [hy128]; with_reducible exact H2_) | (have H2_ := (Option.bind_some _ _).symm.trans H; with_reducible exact H2_) | with_reducible exact H | (rw [hy128]; exact H) | exact H
  have Ny128 := as0 hy128
  clear hy128
  simp only [Option.some.injEq, Prod.mk.injEq] at H
  obtain ⟨rfl, rfl⟩ := H
  go_enter Try.func42, Try.ntmps42
  go_wp2_with (first | ((with_reducible refine gate_callee (f := 81) rfl ?_); refine goesM_ (some 16) rfl rfl Try.func81 #[.slice A1 l1.length c1] rfl ?_; (with_reducible refine (spec_l01Own.calls _ _ l1 t125 _ ?side1 ?side2 A4.out).mono ?_); (case side1 => exact cs (HR1.out)); (case side2 => exact HC1.out); rintro e w6 ⟨v126, rfl, ho0, hb⟩; refine ⟨_, rfl, ?_⟩; have n0_ := as0 (Kd.R_lower ho0 (below_size (bs HB))); have n1_ := as0 (below_step (bs HB) hb); clear HB; have HO127 := n0_; have HB := n1_; clear n0_ n1_; (try clear hb); (try clear hb2); (try clear hk); (try clear hi); (try clear ho0)) | ((with_reducible refine gate_dst (N := 23) rfl ?_); refine Kd.R_lit (Kd.int .i64) _ 2 ?hg (N := 23) ?hd (xs := ([] : List Int)) (inner := []) (ok := fun _ => True) (okp := fun _ => True) ?hr ?hp (fun _ hk => hk) trivial (Below.refl _ _) (Nat.le_refl _) (by simp) ?_; (case hd => rfl); (case hg => rfl); (case hr => first | (go_simp; done) | (go_simp; rfl)); (case hp => exact (Reps.none _ _)); intro v129 w7 ho8 hb hg_ hnew_; clear hg_ hnew_; (first | rw [← Ny128.out] at ho8 | (simp only [Int.reduceToNat] at ho8; rw [← Ny128.out] at ho8)); have n0_ := as0 (Kd.R_elder' (rs HO127) (Kd.R_base ho8) hb); have n1_ := as0 (Kd.R_lower (Kd.R_new' ho8 (Kd.R_lt (rs HO127))) (below_size (bs HB))); have n2_ := as0 (below_step (bs HB) hb); clear HO127; clear HB; have HO127 := n0_; have HO130 := n1_; have HB := n2_; clear n0_ n1_ n2_; clear hb ho8))
  go_ret2
  exact ⟨_, _, er_, by (with_reducible repeat (first | apply Kd.R_alloc | apply Kd.R_drewN | apply Kd.R_drew)); exact Kd.R_mono HO130.out (fun _ hk => hk.2), by (with_reducible repeat (first | apply Kd.R_alloc | apply Kd.R_drewN | apply Kd.R_drew)); exact Kd.R_mono HO127.out (fun _ hk => hk.2), bs HB⟩
 ·
  rw [if_neg c5] at H
  have c5b0 : decide ((l1.length : Int) < (l2.length : Int)) = false := decide_eq_false c5
  have c5b1 : decide (l1.length < l2.length) = false := decide_eq_false (fun h => c5 (Int.ofNat_lt.mpr h))
  clear c5
  obtain ⟨ji9, hji9⟩ : ∃ j_ : Int, (wrap64 ((wrap64 ((l1.length : Int) - (l2.length : Int))) + 1)) = j_ := ⟨_, rfl⟩
  replace H : (if 0 ≤ (ji9) then (if (ji9 : Int).toNat ≤ 35184372088832 then (if 0 ≤ (wrap64 ((l2.length : Int) - 1)) then (if (wrap64 ((l2.length : Int) - 1)) < (l2.length : Int) then ((spec_l01Inverse.f k a0 (rd l2 (wrap64 ((l2.length : Int) - 1)))).bind fun t135 => (spec_l01Divide.l0 k a0 l2 t125 (l2.length : Int) (List.replicate (ji9 : Int).toNat 0) t135 (wrap64 ((l1.length : Int) - (l2.length : Int))))) else (none)) else (none)) else (none)) else (none)) = some (r1, r2) := by first | (rw [hji9] at H; exact H) | (simp only [hji9] at H ⊢; exact H)
  (try rw [hji9] at A4)
  have hji9w : (IntKind.i64.wrap ((wrap64 ((l1.length : Int) - (l2.length : Int))) + 1)) = ji9 := (i64_w _).trans hji9
  by_cases c10 : 0 ≤ (ji9)
  ·
   rw [if_pos c10] at H
   have c10b0 := eq_true c10
   have c10b1 : decide (0 ≤ (ji9)) = true := decide_eq_true c10
   clear c10
   by_cases c11 : (ji9 : Int).toNat ≤ 35184372088832
   ·
    rw [if_pos c11] at H
    have c11b0 := eq_true c11
    have c11b1 : decide ((ji9 : Int).toNat ≤ 35184372088832) = true := decide_eq_true c11
    clear c11
    obtain ⟨y131, hy131⟩ : ∃ y_ : List Int, y_ = (List.replicate (ji9 : Int).toNat 0) := ⟨_, rfl⟩
    replace H : (if 0 ≤ (wrap64 ((l2.length : Int) - 1)) then (if (wrap64 ((l2.length : Int) - 1)) < (l2.length : Int) then ((spec_l01Inverse.f k a0 (rd l2 (wrap64 ((l2.length : Int) - 1)))).bind fun t135 => (spec_l01Divide.l0 k a0 l2 t125 (l2.length : Int) y131 t135 (wrap64 ((l1.length : Int) - (l2.length : Int))))) else (none)) else (none)) = some (r1, r2) := by first | (rw [hy131]; with_reducible exact H) | (have H2_ := (Option.bind_some _ _).symm.trans H; rw [hy131]; with_reducible exact H2_) | (have H2_ := (Option.bind_some _ _).symm.trans H; with_reducible exact H2_) | with_reducible exact H | (rw [hy131]; exact H) | exact H
    have Ny131 := as0 hy131
    clear hy131
    obtain ⟨ji12, hji12⟩ : ∃ j_ : Int, (wrap64 ((l2.length : Int) - 1)) = j_ := ⟨_, rfl⟩
    replace H : (if 0 ≤ (ji12) then (if (ji12) < (l2.length : Int) then ((spec_l01Inverse.f k a0 (rd l2 (ji12))).bind fun t135 => (spec_l01Divide.l0 k a0 l2 t125 (l2.length : Int) y131 t135 (wrap64 ((l1.length : Int) - (l2.length : Int))))) else (none)) else (none)) = some (r1, r2) := by first | (rw [hji12] at H; exact H) | (simp only [hji12] at H ⊢; exact H)
    (try rw [hji12] at A4)
    have hji12w : (IntKind.i64.wrap ((l2.length : Int) - 1)) = ji12 := (i64_w _).trans hji12
    by_cases c13 : 0 ≤ (ji12)
    ·
     rw [if_pos c13] at H
     have c13b0 : decide (0 ≤ (ji12)) = true := decide_eq_true c13
     clear c13
     by_cases c14 : (ji12) < (l2.length : Int)
     ·
      rw [if_pos c14] at H
      have c14b0 : decide ((ji12) < (l2.length : Int)) = true := decide_eq_true c14
      clear c14
      replace H := Option.bind_eq_some_iff.mp H
      obtain ⟨t135, A150, H⟩ := H
      have A15 := as0 A150
      clear A150
      have H' := as0 H
      clear H
      go_enter Try.func42, Try.ntmps42
      try go_wp2_with (first | ((with_reducible refine gate_callee (f := 81) rfl ?_); refine goesM_ (some 16) rfl rfl Try.func81 #[.slice A1 l1.length c1] rfl ?_; (with_reducible refine (spec_l01Own.calls _ _ l1 t125 _ ?side1 ?side2 A4.out).mono ?_); (case side1 => exact cs (HR1.out)); (case side2 => exact HC1.out); rintro e w16 ⟨v126, rfl, ho0, hb⟩; refine ⟨_, rfl, ?_⟩; have n0_ := as0 (Kd.R_lower ho0 (below_size (bs HB))); have n1_ := as0 (below_step (bs HB) hb); clear HB; have HO127 := n0_; have HB := n1_; clear n0_ n1_; (try clear hb); (try clear hb2); (try clear hk); (try clear hi); (try clear ho0)))
      have n0_ := as0 (Kd.R_drew HO127.out)
      have n1_ := as0 (below_drew1 HB.out)
      clear HO127
      clear HB
      have HO127 := n0_
      have HB := n1_
      clear n0_ n1_
      have p134 : 0 ≤ ((ji12) : Int) := oa_
      have q134 : (ji12) < (l2.length : Int) := oa_
      obtain ⟨ad134, e134, hx134_0⟩ := Kd.at_int HR2.out (ji12) p134 q134
      have hw134_0 := hx134_0
      cases e134
      replace hx134_0 := (HB.out.cell (World.block_lt_of_cell? w _ hx134_0)).trans hx134_0
      replace p134 := eq_true p134
      replace q134 := eq_true q134
      refine start_ (n := 15) (S := fun w' => w'.cell? (ad134.add ((ji12)).toNat) = some (.int .i64 (rd l2 (ji12)))) (ds := []) #[false, false, false, false, false, false, false, false, false, false, false, false, false, false, false] (by kernel_rfl) rfl rfl (((HB.out.cell (World.block_lt_of_cell? w _ hw134_0)).trans hw134_0)) (fun hHeld => ?_); refine with_tabW spec_l01Divide.tab4 spec_l01Divide.bits4 (fun HT_ HW_ => ?_)
      generalize w16.drew = w17 at HO127 HB hx134_0 hHeld ⊢
      refine pm_ HT_ (i := 0) (N := some 25) ?_
      refine pm_ HT_ (i := 1) (N := some 26) ?_
      refine pm_ HT_ (i := 2) (N := some 27) ?_
      refine pm_ HT_ (i := 3) (N := some 28) ?_
      refine pm_ HT_ (i := 4) (N := some 29) ?_
      refine pm_ HT_ (i := 6) (N := some 31) ?_
      refine pm_ HT_ (i := 7) (N := some 32) ?_
      refine pm_ HT_ (i := 8) (N := some 33) ?_
      refine pm_ HT_ (i := 9) (N := some 34) ?_
      refine pm_ HT_ (i := 10) (N := some 35) ?_
      refine take_ (i := 11) (N := some 36) (v := ?_) (a' := ?_) #[true, true, true, true, true, false, true, true, true, true, true, true, false, false, false] rfl rfl (take_ofW HT_.out HW_.out (by kernel_rfl)) (fun _ _ _ h => h) (Or.inl ⟨by rfl, ?_⟩) hHeld ?_ ?_
      rotate_left
      ·
       intro w' s0
       go_simp
       with_reducible rfl
      rotate_left
      ·
       simp only [Act.put, List.setIfInBounds_toArray, List.set_cons_zero, List.set_cons_succ, i64_w, i32_w]
       rfl
      refine join_ (σ := Value) 2 #[true, true, true, true, true, true, true, true, true, true, true, true, true, false, false] (fun s_ => [(30, s_), (37, .int .i64 t135)]) (fun s_ w' => (w'.cell? (ad134.add ((ji12)).toNat) = some (.int .i64 (rd l2 (ji12)))) ∧ (Kd.R (Kd.int .i64) 2 w' w.heap.size (fun k_ => some k_ ≠ (s_ : Value).ownBlock) v126 t125) ∧ (Kd.R (Kd.int .i64) 2 w' w.heap.size (fun k_ => some k_ ≠ (v126 : Value).ownBlock) s_ y131) ∧ (Below w.heap.size w w')) ?_ ?_
      rotate_left
      ·
       intro hCont
       refine two_ (i := 5) (j := 12) (Ni := some 30) (Nj := some 37) #[true, true, true, true, true, true, true, true, true, true, true, true, false, false, false] #[true, true, true, true, true, false, true, true, true, true, true, true, true, false, false] rfl rfl rfl rfl (two_of HT_.out (by kernel_rfl)) (by decide) (by decide) (fun K hK => ?_) (fun K hK => ?_)
       ·
        skip
        refine Kd.R_make_step (Kd.int .i64) _ 2 (by rfl) (N := 30) rfl 22 _ _ rfl ji9 rfl rfl Try.underlying22 (.int .i64 0) 8 info2 rfl (by decide) (by omega) 0 (ok := fun _ => True) (okp := fun _ => True) rfl (fun _ hk => hk) trivial (oa_) (Nat.le_trans (Nat.mul_le_mul_right _ (oa_ : ji9.toNat ≤ 35184372088832)) (by omega)) (Below.refl _ _) (Nat.le_refl _) ?_
        intro v132 w18 ho19 hb hg_ hnew_
        clear hg_ hnew_
        (first | rw [← Ny131.out] at ho19 | (simp only [Int.reduceToNat] at ho19; rw [← Ny131.out] at ho19))
        have n0_ := as0 (Kd.R_elder' (rs HO127) (Kd.R_base ho19) hb)
        have n1_ := as0 (Kd.R_lower (Kd.R_new' ho19 (Kd.R_lt (rs HO127))) (below_size (bs HB)))
        have n2_ := as0 (below_step (bs HB) hb)
        clear HO127
        clear HB
        have HO127 := n0_
        have HO133 := n1_
        have HB := n2_
        clear n0_ n1_ n2_
        clear hb ho19
        refine hK.out _ _ (((HB.out.cell (World.block_lt_of_cell? w _ hw134_0)).trans hw134_0)) (fun hHeld => ?_)
        clear hK K
        refine nm_ (some 30) ?_
        refine one_ (i := 12) (N := some 37) #[true, true, true, true, true, true, true, true, true, true, true, true, true, false, false] rfl rfl (one_of HT_.out (by kernel_rfl)) (by decide) (fun K hK => ?_)
        refine goes_ Try.func60 (by kernel_rfl) rfl #[.int .i64 a0, .int .i64 (rd l2 (ji12))] (by rfl) rfl rfl (by (try simp only [List.map_toArray, List.map_cons, List.map_nil]); first | done | (simp only [hji12]; rfl) | rfl | (simp only [List.length_drop, List.length_take]; rfl)) ?_
        with_reducible refine (spec_l01Inverse.calls k a0 (rd l2 (ji12)) t135 _ A15.out).mono ?_
        rintro e w' ⟨rfl, ⟨nd, rfl⟩⟩
        refine ⟨_, rfl, ?_⟩
        refine hK.out _ _ (((HB.out.cell (World.block_lt_of_cell? w _ hw134_0)).trans hw134_0)) (fun hHeld => ?_)
        clear hK K
        refine nm_ (some 37) ?_
        exact norm_ (by simp only [putAll, Act.put, List.setIfInBounds_toArray, List.set_cons_zero, List.set_cons_succ]) (hCont (v132) _ ⟨hHeld, (by (with_reducible repeat (first | apply Kd.R_alloc | apply Kd.R_drewN | apply Kd.R_drew)); exact Kd.R_mono HO127.out (fun _ hk => hk.2)), (by (with_reducible repeat (first | apply Kd.R_alloc | apply Kd.R_drewN | apply Kd.R_drew)); exact Kd.R_mono HO133.out (fun _ hk => hk.2)), (bs HB)⟩)
       ·
        skip
        refine goes_ Try.func60 (by kernel_rfl) rfl #[.int .i64 a0, .int .i64 (rd l2 (ji12))] (by rfl) rfl rfl (by (try simp only [List.map_toArray, List.map_cons, List.map_nil]); first | done | (simp only [hji12]; rfl) | rfl | (simp only [List.length_drop, List.length_take]; rfl)) ?_
        with_reducible refine (spec_l01Inverse.calls k a0 (rd l2 (ji12)) t135 _ A15.out).mono ?_
        rintro e w' ⟨rfl, ⟨nd, rfl⟩⟩
        refine ⟨_, rfl, ?_⟩
        refine hK.out _ _ (((HB.out.cell (World.block_lt_of_cell? w _ hw134_0)).trans hw134_0)) (fun hHeld => ?_)
        clear hK K
        refine nm_ (some 37) ?_
        refine one_ (i := 5) (N := some 30) #[true, true, true, true, true, true, true, true, true, true, true, true, true, false, false] rfl rfl (one_of HT_.out (by kernel_rfl)) (by decide) (fun K hK => ?_)
        refine Kd.R_make_step (Kd.int .i64) _ 2 (by rfl) (N := 30) rfl 22 _ _ rfl ji9 rfl rfl Try.underlying22 (.int .i64 0) 8 info2 rfl (by decide) (by omega) 0 (ok := fun _ => True) (okp := fun _ => True) rfl (fun _ hk => hk) trivial (oa_) (Nat.le_trans (Nat.mul_le_mul_right _ (oa_ : ji9.toNat ≤ 35184372088832)) (by omega)) (Below.refl _ _) (Nat.le_refl _) ?_
        intro v132 w18 ho19 hb hg_ hnew_
        clear hg_ hnew_
        (first | rw [← Ny131.out] at ho19 | (simp only [Int.reduceToNat] at ho19; rw [← Ny131.out] at ho19))
        have n0_ := as0 (Kd.R_elder' (rs HO127) (Kd.R_base ho19) hb)
        have n1_ := as0 (Kd.R_lower (Kd.R_new' ho19 (Kd.R_lt (rs HO127))) (below_size (bs HB)))
        have n2_ := as0 (below_step (bs HB) hb)
        clear HO127
        clear HB
        have HO127 := n0_
        have HO133 := n1_
        have HB := n2_
        clear n0_ n1_ n2_
        clear hb ho19
        refine hK.out _ _ (((HB.out.cell (World.block_lt_of_cell? w _ hw134_0)).trans hw134_0)) (fun hHeld => ?_)
        clear hK K
        refine nm_ (some 30) ?_
        exact norm_ (by simp only [putAll, Act.put, List.setIfInBounds_toArray, List.set_cons_zero, List.set_cons_succ]) (hCont (v132) _ ⟨hHeld, (by (with_reducible repeat (first | apply Kd.R_alloc | apply Kd.R_drewN | apply Kd.R_drew)); exact Kd.R_mono HO127.out (fun _ hk => hk.2)), (by (with_reducible repeat (first | apply Kd.R_alloc | apply Kd.R_drewN | apply Kd.R_drew)); exact Kd.R_mono HO133.out (fun _ hk => hk.2)), (bs HB)⟩)
      rintro v132 w20 ⟨hS_, h0_, h1_, h2_⟩
      have n0_ : Aside0 (Kd.R (Kd.int .i64) 2 w20 w.heap.size (fun k_ => some k_ ≠ (v132 : Value).ownBlock) v126 t125) := ⟨h0_⟩
      have n1_ : Aside0 (Kd.R (Kd.int .i64) 2 w20 w.heap.size (fun k_ => some k_ ≠ (v126 : Value).ownBlock) v132 y131) := ⟨h1_⟩
      have n2_ : Aside0 (Below w.heap.size w w20) := ⟨h2_⟩
      clear HO127
      clear HB
      clear h0_ h1_ h2_
      have HO127 := n0_
      have HO133 := n1_
      have HB := n2_
      clear n0_ n1_ n2_
      have hHeld : w20.cell? (ad134.add ((ji12)).toNat) = some (.int .i64 (rd l2 (ji12))) := hS_
      refine norm_ (a' := ?_) ?_ ?_
      rotate_left
      ·
       simp only [putAll, Act.put, List.setIfInBounds_toArray, List.set_cons_zero, List.set_cons_succ]
       rfl
      refine pm_ HT_ (i := 13) (N := some 10) ?_
      refine pm_ HT_ (i := 14) (N := some 11) ?_
      refine done_ (done_of HT_.out (by kernel_rfl)) ?_
      try go_wp2
      go_loopg [12] k (fun kq v12 w' => ∃ (x8_1 : List Int) (x10_1 : List Int) (x12_1 : Int), v12 = .int .i64 x12_1 ∧ Aside0 (spec_l01Divide.l0 kq a0 l2 x8_1 (l2.length : Int) x10_1 t135 x12_1 = some (r1, r2)) ∧ Aside0 (kq ≤ k) ∧ Aside0 (Kd.R (Kd.int .i64) 2 w' w.heap.size (fun k_ => some k_ ≠ (v132 : Value).ownBlock) v126 x8_1) ∧ Aside0 (Kd.R (Kd.int .i64) 2 w' w.heap.size (fun k_ => some k_ ≠ (v126 : Value).ownBlock) v132 x10_1) ∧ Aside0 (Below w.heap.size w w'))
      case atStart => exact ⟨(t125), (y131), (wrap64 ((l1.length : Int) - (l2.length : Int))), ea_, H', ⟨Nat.le_refl _⟩, ⟨rs HO127⟩, ⟨rs HO133⟩, ⟨bs HB⟩⟩
      case round =>
       clear H'
       try clear c1
       try clear p1
       try clear q1
       try clear hx1
       try clear c2
       try clear p2
       try clear c4
       try clear c5
       try clear c5b0
       try clear c5b1
       try clear c6
       try clear p6
       try clear c8
       try clear c10
       try clear c10b0
       try clear c10b1
       try clear c11
       try clear c11b0
       try clear c11b1
       try clear c13
       try clear c13b0
       try clear p13
       try clear q13
       try clear hx13
       try clear c14
       try clear c14b0
       try clear hx134_0
       try clear p134
       try clear q134
       obtain ⟨x8_1, x10_1, x12_1, rfl, HA, HK1, HO_8, HO_10, HB⟩ := hrel
       cases gk with
       | zero => exact absurd HA.out (by simp [spec_l01Divide.l0])
       | succ k1 =>
        have H := HA.out
        clear HA
        simp only [spec_l01Divide.l0] at H
        by_cases c21 : x12_1 ≥ 0
        ·
         rw [if_pos c21] at H
         have c21b0 : decide (0 ≤ x12_1) = true := decide_eq_true c21
         clear c21
         obtain ⟨ji22, hji22⟩ : ∃ j_ : Int, (wrap64 ((wrap64 (x12_1 + (l2.length : Int))) - 1)) = j_ := ⟨_, rfl⟩
         replace H : (if 0 ≤ (ji22) then (if (ji22) < (x8_1.length : Int) then (if a0 = 0 then (none) else (if 0 ≤ x12_1 then (if x12_1 < (x10_1.length : Int) then (spec_l01Divide.l1 k1 a0 l2 x8_1 (l2.length : Int) (x10_1.set (x12_1 : Int).toNat (Int.tmod (wrap64 ((rd x8_1 (ji22)) * t135)) a0)) t135 x12_1 (Int.tmod (wrap64 ((rd x8_1 (ji22)) * t135)) a0) 0) else (none)) else (none))) else (none)) else (none)) = some (r1, r2) := by first | (rw [hji22] at H; exact H) | (simp only [hji22] at H ⊢; exact H)
         have hji22w : (IntKind.i64.wrap ((wrap64 (x12_1 + (l2.length : Int))) - 1)) = ji22 := (i64_w _).trans hji22
         by_cases c23 : 0 ≤ (ji22)
         ·
          rw [if_pos c23] at H
          have c23b0 : decide (0 ≤ (ji22)) = true := decide_eq_true c23
          clear c23
          by_cases c24 : (ji22) < (x8_1.length : Int)
          ·
           rw [if_pos c24] at H
           have c24b0 : decide ((ji22) < (x8_1.length : Int)) = true := decide_eq_true c24
           clear c24
           by_cases c25 : a0 = 0
           ·
            rw [if_pos c25] at H
            exact absurd H (by simp)
           ·
            rw [if_neg c25] at H
            have c25b0 : (a0 == 0) = false := beq_eq_false_iff_ne.mpr c25
            have c25b1 : (a0 != 0) = true := bne_iff_ne.mpr c25
            by_cases c26 : 0 ≤ x12_1
            ·
             rw [if_pos c26] at H
             have c26b0 : decide (0 ≤ x12_1) = true := decide_eq_true c26
             clear c26
             by_cases c27 : x12_1 < (x10_1.length : Int)
             ·
              rw [if_pos c27] at H
              have c27b0 : decide (x12_1 < (x10_1.length : Int)) = true := decide_eq_true c27
              clear c27
              obtain ⟨y143, hy143⟩ : ∃ y_ : List Int, y_ = (x10_1.set (x12_1 : Int).toNat (Int.tmod (wrap64 ((rd x8_1 (ji22)) * t135)) a0)) := ⟨_, rfl⟩
              replace H : (spec_l01Divide.l1 k1 a0 l2 x8_1 (l2.length : Int) y143 t135 x12_1 (Int.tmod (wrap64 ((rd x8_1 (ji22)) * t135)) a0) 0) = some (r1, r2) := by first | (rw [hy143]; with_reducible exact H) | (have H2_ := (Option.bind_some _ _).symm.trans H; rw [hy143]; with_reducible exact H2_) | (have H2_ := (Option.bind_some _ _).symm.trans H; with_reducible exact H2_) | with_reducible exact H | (rw [hy143]; exact H) | exact H
              have Ny143 := as0 hy143
              clear hy143
              have H' := as0 H
              clear H
              obtain ⟨Ao29, co29, eo29⟩ := Kd.R_slice HO_8.out
              subst eo29
              have p142 : 0 ≤ ((ji22) : Int) := oa_
              have q142 : (ji22) < (x8_1.length : Int) := oa_
              obtain ⟨ad142, e142, hx142_0⟩ := Kd.at_int (Kd.R_reads' HO_8.out).2.2 (ji22) p142 q142
              cases e142
              replace p142 := eq_true p142
              replace q142 := eq_true q142
              have p28 : 0 ≤ (x12_1 : Int) := oa_
              have q28 : (x12_1 : Int) < ((x10_1.length : Int) : Int) := oa_
              obtain ⟨go28, co28, eo28, gb28, gl28, cl28, HG28⟩ := Kd.R_form HO_10.out (by omega)
              (first | cases eo28 | (injection eo28 with ea_ en_ ec_; (first | subst ea_ | (injection ea_ with ea_; subst ea_)); subst ec_; clear en_))
              have GB28 := as0 gb28
              have GG28 := as0 HG28
              clear gb28 gl28 HG28
              obtain ⟨hx28_0, hf28_0⟩ := Kd.R_celln 0 HO_10.out (x12_1 : Int) p28 q28
              replace p28 := eq_true p28
              replace q28 := eq_true q28
              have HP30 := Kd.R_putg HO_10.out (x12_1 : Int) (Int.tmod (wrap64 ((rd x8_1 (ji22)) * t135)) a0)
              go_wp2_with (first | ((with_reducible refine gate_store (t := 2) (p := 60) rfl ?_); refine store_event (t := 2) (p := 60) (v := ?vo_w31) (w1 := (wr.setCell ⟨go28, (x12_1 : Int).toNat, none⟩ (.int .i64 (Int.tmod (wrap64 ((rd x8_1 (ji22)) * t135)) a0)))) ?hg ?ho ?hn ?hr ?_; (case ho => rfl); (case hg => rfl); (case hn => rfl); (case hr => first | (go_simp; done) | (go_simp; rfl)); intro w31 hw; have hg : wr.grownBy w31 (some go28) := (by rw [hw]; exact HP30.2); have hp_ : Kd.R (Kd.int .i64) 2 w31 w.heap.size (fun k_ => some k_ ≠ (.slice (some ad142) x8_1.length co29 : Value).ownBlock) (.slice (some ⟨go28, 0, none⟩) x10_1.length co28) y143 := (by rw [hw, Ny143.out]; exact HP30.1); clear HP30; have n0_ := as0 (Kd.R_after (v := (.slice (some ⟨go28, 0, none⟩) x10_1.length co28)) (v1 := (.slice (some ⟨go28, 0, none⟩) x10_1.length co28)) (ok := (fun _ => True)) (by (with_reducible repeat (first | apply Kd.R_alloc | apply Kd.R_drewN | apply Kd.R_drew)); exact Kd.R_mono HO_8.out (fun _ hk => ⟨trivial, hk⟩)) hg (.inl rfl)); have n1_ := as0 (hp_); have n2_ := as0 ((by rw [hw]; exact below_set (HB.out) GB28.out : Below w.heap.size w w31)); clear HO_8; clear HO_10; clear HB; have HO_8 := n0_; have HO_10 := n1_; have HB := n2_; clear n0_ n1_ n2_; clear hg hw hp_))
              go_loopg [14] k1 (fun kq v14 w' => ∃ (x8_2 : List Int) (x14_2 : Int), v14 = .int .i64 x14_2 ∧ Aside0 (spec_l01Divide.l1 kq a0 l2 x8_2 (l2.length : Int) y143 t135 x12_1 (Int.tmod (wrap64 ((rd x8_1 (ji22)) * t135)) a0) x14_2 = some (r1, r2)) ∧ Aside0 (kq ≤ k1) ∧ Aside0 (Kd.R (Kd.int .i64) 2 w' w.heap.size (fun k_ => some k_ ≠ ((.slice (some ⟨go28, 0, none⟩) x10_1.length co28) : Value).ownBlock) (.slice (some ad142) x8_1.length co29) x8_2) ∧ Aside0 (Kd.R (Kd.int .i64) 2 w' w.heap.size (fun k_ => some k_ ≠ ((.slice (some ad142) x8_1.length co29) : Value).ownBlock) (.slice (some ⟨go28, 0, none⟩) x10_1.length co28) y143) ∧ Aside0 (Below w.heap.size w w'))
              case atStart => exact ⟨(x8_1), (0), ea_, H', ⟨Nat.le_refl _⟩, ⟨by (with_reducible repeat (first | apply Kd.R_alloc | apply Kd.R_drewN | apply Kd.R_drew)); exact Kd.R_mono HO_8.out (fun _ hk => hk.2)⟩, ⟨rs HO_10⟩, ⟨bs HB⟩⟩
              case round =>
               clear H'
               try clear c1
               try clear p1
               try clear q1
               try clear hx1
               try clear c2
               try clear p2
               try clear q2
               try clear hx2
               try clear c4
               try clear c5
               try clear c5b0
               try clear c5b1
               try clear c6
               try clear p6
               try clear c8
               try clear c10
               try clear c10b0
               try clear c10b1
               try clear c11
               try clear c11b0
               try clear c11b1
               try clear c13
               try clear c13b0
               try clear p13
               try clear q13
               try clear hx13
               try clear c14
               try clear c14b0
               try clear p14
               try clear q14
               try clear hx14
               try clear c21
               try clear c21b0
               try clear c23
               try clear c23b0
               try clear c24
               try clear c24b0
               try clear c25
               try clear c25b0
               try clear c25b1
               try clear c26
               try clear c26b0
               try clear c27
               try clear c27b0
               try clear p28
               try clear q28
               try clear hx28
               try clear hf28
               try clear hx134_0
               try clear hx142_0
               try clear hx28_0
               try clear p1
               try clear p13
               try clear p134
               try clear p142
               try clear p2
               try clear p28
               try clear p6
               try clear q1
               try clear q13
               try clear q134
               try clear q142
               try clear q28
               obtain ⟨x8_2, x14_2, rfl, HA, HK2, HO_8, HO_10, HB⟩ := hrel
               have hl8_2 := (Kd.R_reads' HO_8.out).1
               rw [hl8_2] at HO_8
               (try simp only [hl8_2])
               (try simp only [hl8_2] at HO_10)
               have hl10_2 := (Kd.R_reads' HO_10.out).1
               rw [hl10_2] at HO_10
               (try simp only [hl10_2])
               (try simp only [hl10_2] at HO_8)
               cases gk with
               | zero => exact absurd HA.out (by simp [spec_l01Divide.l1])
               | succ k2 =>
                have H := HA.out
                clear HA
                simp only [spec_l01Divide.l1] at H
                by_cases c32 : x14_2 < (l2.length : Int)
                ·
                 rw [if_pos c32] at H
                 have c32b0 : decide (x14_2 < (l2.length : Int)) = true := decide_eq_true c32
                 clear c32
                 obtain ⟨ji33, hji33⟩ : ∃ j_ : Int, (wrap64 (x12_1 + x14_2)) = j_ := ⟨_, rfl⟩
                 replace H : (if 0 ≤ (ji33) then (if (ji33) < (x8_2.length : Int) then (if 0 ≤ x14_2 then (if x14_2 < (l2.length : Int) then ((spec_l01Mod.f a0 (wrap64 ((rd x8_2 (ji33)) - (wrap64 ((Int.tmod (wrap64 ((rd x8_1 (ji22)) * t135)) a0) * (rd l2 x14_2)))))).bind fun t146 => (spec_l01Divide.l1 k2 a0 l2 (x8_2.set ((ji33) : Int).toNat t146) (l2.length : Int) y143 t135 x12_1 (Int.tmod (wrap64 ((rd x8_1 (ji22)) * t135)) a0) (wrap64 (x14_2 + 1)))) else (none)) else (none)) else (none)) else (none)) = some (r1, r2) := by first | (rw [hji33] at H; exact H) | (simp only [hji33] at H ⊢; exact H)
                 have hji33w : (IntKind.i64.wrap (x12_1 + x14_2)) = ji33 := (i64_w _).trans hji33
                 by_cases c34 : 0 ≤ (ji33)
                 ·
                  rw [if_pos c34] at H
                  have c34b0 : decide (0 ≤ (ji33)) = true := decide_eq_true c34
                  clear c34
                  by_cases c35 : (ji33) < (x8_2.length : Int)
                  ·
                   rw [if_pos c35] at H
                   have c35b0 : decide ((ji33) < (x8_2.length : Int)) = true := decide_eq_true c35
                   clear c35
                   by_cases c36 : 0 ≤ x14_2
                   ·
                    rw [if_pos c36] at H
                    have c36b0 : decide (0 ≤ x14_2) = true := decide_eq_true c36
                    clear c36
                    by_cases c37 : x14_2 < (l2.length : Int)
                    ·
                     rw [if_pos c37] at H
                     have c37b0 : decide (x14_2 < (l2.length : Int)) = true := decide_eq_true c37
                     clear c37
                     replace H := Option.bind_eq_some_iff.mp H
                     obtain ⟨t146, A380, H⟩ := H
                     have A38 := as0 A380
                     clear A380
                     obtain ⟨y147, hy147⟩ : ∃ y_ : List Int, y_ = (x8_2.set ((ji33) : Int).toNat t146) := ⟨_, rfl⟩
                     replace H : (spec_l01Divide.l1 k2 a0 l2 y147 (l2.length : Int) y143 t135 x12_1 (Int.tmod (wrap64 ((rd x8_1 (ji22)) * t135)) a0) (wrap64 (x14_2 + 1))) = some (r1, r2) := by first | (rw [hy147]; with_reducible exact H) | (have H2_ := (Option.bind_some _ _).symm.trans H; rw [hy147]; with_reducible exact H2_) | (have H2_ := (Option.bind_some _ _).symm.trans H; with_reducible exact H2_) | with_reducible exact H | (rw [hy147]; exact H) | exact H
                     have Ny147 := as0 hy147
                     clear hy147
                     have H' := as0 H
                     clear H
                     try go_wp2
                     have n0_ := as0 (Kd.R_drew HO_8.out)
                     have n1_ := as0 (Kd.R_drew HO_10.out)
                     have n2_ := as0 (below_drew1 HB.out)
                     clear HO_8
                     clear HO_10
                     clear HB
                     have HO_8 := n0_
                     have HO_10 := n1_
                     have HB := n2_
                     clear n0_ n1_ n2_
                     have p144 : 0 ≤ ((ji33) : Int) := oa_
                     have q144 : (ji33) < (x8_2.length : Int) := oa_
                     obtain ⟨ad144, e144, hx144_0⟩ := Kd.at_int (Kd.R_reads' HO_8.out).2.2 (ji33) p144 q144
                     obtain rfl : ad142 = ad144 := (by injection e144)
                     replace p144 := eq_true p144
                     replace q144 := eq_true q144
                     have p145 : 0 ≤ (x14_2 : Int) := oa_
                     have q145 : x14_2 < (l2.length : Int) := oa_
                     obtain ⟨ad145, e145, hx145_0⟩ := Kd.at_int HR2.out x14_2 p145 q145
                     have hw145_0 := hx145_0
                     obtain rfl : ad134 = ad145 := (by injection e145)
                     replace hx145_0 := (HB.out.cell (World.block_lt_of_cell? w _ hx145_0)).trans hx145_0
                     replace p145 := eq_true p145
                     replace q145 := eq_true q145
                     refine start_ (n := 21) (S := fun w' => w'.cell? (ad142.add ((ji33)).toNat) = some (.int .i64 (rd x8_2 (ji33))) ∧ w'.cell? (ad134.add (x14_2).toNat) = some (.int .i64 (rd l2 x14_2))) (ds := [20]) #[false, false, false, false, false, false, false, false, false, false, false, false, false, false, false, false, false, false, false, false, false] (by kernel_rfl) rfl rfl ⟨hx144_0, ((HB.out.cell (World.block_lt_of_cell? w _ hw145_0)).trans hw145_0)⟩ (fun hHeld => ?_); refine with_tabW spec_l01Divide.tab13 spec_l01Divide.bits13 (fun HT_ HW_ => ?_)
                     generalize wr.drew = w40 at HO_8 HO_10 HB hx144_0 hx145_0 hHeld ⊢
                     refine pm_ HT_ (i := 0) (N := some 66) ?_
                     refine pm_ HT_ (i := 1) (N := some 67) ?_
                     refine pm_ HT_ (i := 2) (N := some 68) ?_
                     refine pm_ HT_ (i := 3) (N := some 69) ?_
                     refine pm_ HT_ (i := 4) (N := some 70) ?_
                     refine pm_ HT_ (i := 5) (N := some 71) ?_
                     refine pm_ HT_ (i := 6) (N := some 72) ?_
                     refine pm_ HT_ (i := 7) (N := some 73) ?_
                     refine pm_ HT_ (i := 8) (N := some 74) ?_
                     refine pm_ HT_ (i := 9) (N := some 75) ?_
                     refine pm_ HT_ (i := 11) (N := some 77) ?_
                     refine pm_ HT_ (i := 12) (N := some 78) ?_
                     refine pm_ HT_ (i := 13) (N := some 79) ?_
                     refine pm_ HT_ (i := 14) (N := some 80) ?_
                     refine tm2_ HT_ HW_ (i := 10) (N := some 76) hHeld ?_
                     refine tm2_ HT_ HW_ (i := 15) (N := some 81) hHeld ?_
                     refine pm_ HT_ (i := 16) (N := some 82) ?_
                     refine pm_ HT_ (i := 17) (N := some 83) ?_
                     refine one_ (i := 18) (N := some 84) #[true, true, true, true, true, true, true, true, true, true, true, true, true, true, true, true, true, true, true, false, false] rfl rfl (one_of HT_.out (by kernel_rfl)) (by decide) (fun K hK => ?_)
                     refine goes_ Try.func61 (by kernel_rfl) rfl #[.int .i64 a0, .int .i64 (wrap64 ((rd x8_2 (ji33)) - (wrap64 ((Int.tmod (wrap64 ((rd x8_1 (ji22)) * t135)) a0) * (rd l2 x14_2)))))] (by rfl) rfl rfl (by (try simp only [List.map_toArray, List.map_cons, List.map_nil]); first | done | (simp only [hji22, hji33]; rfl) | rfl | (simp only [List.length_drop, List.length_take]; rfl)) ?_
                     with_reducible refine (spec_l01Mod.calls a0 (wrap64 ((rd x8_2 (ji33)) - (wrap64 ((Int.tmod (wrap64 ((rd x8_1 (ji22)) * t135)) a0) * (rd l2 x14_2))))) t146 _ A38.out).mono ?_
                     rintro e w' ⟨rfl, ⟨nd, rfl⟩⟩
                     refine ⟨_, rfl, ?_⟩
                     have p39 : 0 ≤ ((ji33) : Int) := oa_
                     have q39 : ((ji33) : Int) < ((x8_2.length : Int) : Int) := oa_
                     obtain ⟨go39, co39, eo39, gb39, gl39, cl39, HG39⟩ := Kd.R_form HO_8.out (by omega)
                     (first | cases eo39 | (injection eo39 with ea_ en_ ec_; (first | subst ea_ | (injection ea_ with ea_; subst ea_)); subst ec_; clear en_))
                     have GB39 := as0 gb39
                     have GG39 := as0 HG39
                     clear gb39 gl39 HG39
                     (first | simp only [add_plain] at hx142_0 | skip)
                     (first | simp only [add_plain] at hx144_0 | skip)
                     obtain ⟨hx39_0, hf39_0⟩ := Kd.R_celln 0 HO_8.out ((ji33) : Int) p39 q39
                     replace p39 := eq_true p39
                     replace q39 := eq_true q39
                     have HP41 := Kd.R_putn HO_8.out ((ji33) : Int) t146
                     rw [← Ny147.out] at HP41
                     have HQ41 := as0 HP41
                     clear HP41
                     refine hK.out _ _ ⟨hHeld.1, ((HB.out.cell (World.block_lt_of_cell? w _ hw145_0)).trans hw145_0)⟩ (fun hHeld => ?_)
                     clear hK K
                     refine nm_ (some 84) ?_
                     refine pm_ HT_ (i := 19) (N := some 85) ?_
                     refine last_ (i := 20) (N := none) #[true, true, true, true, true, true, true, true, true, true, true, true, true, true, true, true, true, true, true, true, true] rfl rfl (one_of HT_.out (by kernel_rfl)) (by decide) (fun K hK => ?_)
                     refine skip_ (w1 := ?_) (by rfl) rfl ?_ ?_
                     rotate_left
                     ·
                      go_simp
                      rfl
                     refine hK.out _ _ ?_
                     clear hK K
                     refine done_ (done_of HT_.out (by kernel_rfl)) ?_
                     try go_wp2
                     (try simp only [← hl8_2, ← hl10_2])
                     (try simp only [add_plain] at *)
                     go_roundg k2
                     case measure => have := HK1.out; have := HK2.out; omega
                     case rel => exact ⟨(y147), (wrap64 (x14_2 + 1)), ea_, H', ⟨by have := HK1.out; have := HK2.out; omega⟩, ⟨by (try simp only [hl8_2]); (try simp only [hl10_2]); (with_reducible repeat (first | apply Kd.R_alloc | apply Kd.R_drewN | apply Kd.R_drew)); exact HQ41.out⟩, ⟨by (try simp only [hl8_2]); (try simp only [hl10_2]); (with_reducible repeat (first | apply Kd.R_alloc | apply Kd.R_drewN | apply Kd.R_drew)); exact Kd.R_mono (Kd.R_far (p := ⟨go39, ((ji33) : Int).toNat, none⟩) (Kd.R_mono HO_10.out (fun k_ hk => (⟨hk, fun e_ => hk (by rw [e_]; rfl)⟩ : _ ∧ k_ ≠ go39))) (fun _ hk => hk.2) (.int .i64 t146)) (fun _ hk => hk.1)⟩, ⟨by repeat (first | (with_reducible first | exact HB.out | apply below_alloc | apply pw_below_drewN | apply below_drew1 | refine below_set ?_ GB39.out) | exact HB.out)⟩⟩
                    ·
                     rw [if_neg c37] at H
                     exact absurd H (by simp)
                   ·
                    rw [if_neg c36] at H
                    exact absurd H (by simp)
                  ·
                   rw [if_neg c35] at H
                   exact absurd H (by simp)
                 ·
                  rw [if_neg c34] at H
                  exact absurd H (by simp)
                ·
                 rw [if_neg c32] at H
                 have c32b0 : decide (x14_2 < (l2.length : Int)) = false := decide_eq_false c32
                 clear c32
                 have H' := as0 H
                 clear H
                 go_wp2
                 (try simp only [← hl8_2, ← hl10_2])
                 (try simp only [add_plain] at *)
                 go_roundg k2
                 case measure => have := HK1.out; have := HK2.out; omega
                 case rel => exact ⟨(x8_2), (y143), (wrap64 (x12_1 - 1)), ea_, H', ⟨by have := HK1.out; have := HK2.out; omega⟩, ⟨by (try simp only [hl8_2]); (try simp only [hl10_2]); (with_reducible repeat (first | apply Kd.R_alloc | apply Kd.R_drewN | apply Kd.R_drew)); exact HO_8.out⟩, ⟨by (try simp only [hl8_2]); (try simp only [hl10_2]); (with_reducible repeat (first | apply Kd.R_alloc | apply Kd.R_drewN | apply Kd.R_drew)); exact HO_10.out⟩, ⟨bs HB⟩⟩
             ·
              rw [if_neg c27] at H
              exact absurd H (by simp)
            ·
             rw [if_neg c26] at H
             exact absurd H (by simp)
          ·
           rw [if_neg c24] at H
           exact absurd H (by simp)
         ·
          rw [if_neg c23] at H
          exact absurd H (by simp)
        ·
         rw [if_neg c21] at H
         have c21b0 : decide (0 ≤ x12_1) = false := decide_eq_false c21
         clear c21
         replace H := Option.bind_eq_some_iff.mp H
         obtain ⟨t136, A420, H⟩ := H
         have A42 := as0 A420
         clear A420
         replace H := Option.bind_eq_some_iff.mp H
         obtain ⟨t139, A430, H⟩ := H
         have A43 := as0 A430
         clear A430
         simp only [Option.some.injEq, Prod.mk.injEq] at H
         obtain ⟨rfl, rfl⟩ := H
         obtain ⟨Ao44, co44, eo44⟩ := Kd.R_slice HO_10.out
         subst eo44
         go_wp2_with (first | ((with_reducible refine gate_callee (f := 82) rfl ?_); refine goesM_ (some 87) rfl rfl Try.func82 #[.slice Ao44 x10_1.length co44] rfl ?_; (with_reducible refine (spec_l01Trim.calls k1 _ _ x10_1 t136 _ ?side1 ?side2 A42.out).mono ?_); (case side1 => exact cs ((Kd.R_reads' HO_10.out).2.2)); (case side2 => exact (Kd.R_reads' HO_10.out).2.1); rintro e w45 ⟨v137, rfl, ho0, hb⟩; refine ⟨_, rfl, ?_⟩; have n0_ := as0 (Kd.R_elder' (rs HO_8) (Kd.R_base ho0) hb); have n1_ := as0 (Kd.R_elder' (rs HO_10) (Kd.R_base ho0) hb); have n2_ := as0 (Kd.R_lower (Kd.R_new' (Kd.R_new' ho0 (Kd.R_lt (rs HO_8))) (Kd.R_lt (rs HO_10))) (below_size (bs HB))); have n3_ := as0 (below_step (bs HB) hb); clear HO_8; clear HO_10; clear HB; have HO_8 := n0_; have HO_10 := n1_; have HO138 := n2_; have HB := n3_; clear n0_ n1_ n2_ n3_; (try clear hb); (try clear hb2); (try clear hk); (try clear hi); (try clear ho0); obtain ⟨Ao46, co46, eo46⟩ := Kd.R_slice HO_8.out; subst eo46) | ((with_reducible refine gate_callee (f := 82) rfl ?_); refine goesM_ (some 89) rfl rfl Try.func82 #[.slice Ao46 x8_1.length co46] rfl ?_; (with_reducible refine (spec_l01Trim.calls k1 _ _ x8_1 t139 _ ?side1 ?side2 A43.out).mono ?_); (case side1 => exact cs ((Kd.R_reads' HO_8.out).2.2)); (case side2 => exact (Kd.R_reads' HO_8.out).2.1); rintro e w47 ⟨v140, rfl, ho0, hb⟩; refine ⟨_, rfl, ?_⟩; have n0_ := as0 (Kd.R_elder' (rs HO_8) (Kd.R_base ho0) hb); have n1_ := as0 (Kd.R_elder' (rs HO_10) (Kd.R_base ho0) hb); have n2_ := as0 (Kd.R_elder' (rs HO138) (Kd.R_base ho0) hb); have n3_ := as0 (Kd.R_lower (Kd.R_new' (Kd.R_new' (Kd.R_new' ho0 (Kd.R_lt (rs HO_8))) (Kd.R_lt (rs HO_10))) (Kd.R_lt (rs HO138))) (below_size (bs HB))); have n4_ := as0 (below_step (bs HB) hb); clear HO_8; clear HO_10; clear HO138; clear HB; have HO_8 := n0_; have HO_10 := n1_; have HO138 := n2_; have HO141 := n3_; have HB := n4_; clear n0_ n1_ n2_ n3_ n4_; (try clear hb); (try clear hb2); (try clear hk); (try clear hi); (try clear ho0)))
         go_ret2
         exact ⟨_, _, by first | rfl | (simp [errW_none, errW_some] <;> rfl) | (simp only [← hji9, ← hji12]; first | rfl | (simp [errW_none, errW_some] <;> rfl)) | (simp [*, errW_none, errW_some] <;> rfl), by (with_reducible repeat (first | apply Kd.R_alloc | apply Kd.R_drewN | apply Kd.R_drew)); exact Kd.R_mono HO138.out (fun _ hk => hk.2), by (with_reducible repeat (first | apply Kd.R_alloc | apply Kd.R_drewN | apply Kd.R_drew)); exact Kd.R_mono HO141.out (fun _ hk => hk.2), bs HB⟩
     ·
      rw [if_neg c14] at H
      exact absurd H (by simp)
    ·
     rw [if_neg c13] at H
     exact absurd H (by simp)
   ·
    rw [if_neg c11] at H
    exact absurd H (by simp)
  ·
   rw [if_neg c10] at H
   exact absurd H (by simp)
end Go.Proofs.Ytlmolloallhclaa.H
set_option linter.unusedVariables false
set_option linter.unusedSimpArgs false
namespace Go.Proofs.Ytlmolloallhclaa.H
open Go.RowKit Go.Proofs.YtlmolloallhclaaW.PrintWords Go.Proofs.YtlmolloallhclaaW.PrintLast Go.Proofs.Ytlmolloallhclaa.Num
def dv1 (p q : Int) (g : List Int) (a : Nat) : List Int → Nat → Nat → List Int
 | r, _, 0 => r
 | r, j, d + 1 => dv1 p q g a (r.set (a + j) ((r.getD (a + j) 0 - q * g.getD j 0) % p)) (j + 1) d
def dvR (p iv : Int) (g : List Int) : Nat → List Int → List Int → List Int × List Int
 | 0, q, r => (q, r)
 | m + 1, q, r => dvR p iv g m (q.set m (r.getD (m + g.length - 1) 0 * iv % p)) (dv1 p (r.getD (m + g.length - 1) 0 * iv % p) g m r 0 g.length)
def divL (p : Int) (f g : List Int) : List Int × List Int :=
  if f.length < g.length then ([], f) else
    ((dvR p (inv p (g.getD (g.length - 1) 0)) g (f.length - g.length + 1) (List.replicate (f.length - g.length + 1) 0) f).1,
     trimL (dvR p (inv p (g.getD (g.length - 1) 0)) g (f.length - g.length + 1) (List.replicate (f.length - g.length + 1) 0) f).2)
theorem dv1_len (p q : Int) (g : List Int) (a : Nat) : ∀ d j r, (dv1 p q g a r j d).length = r.length
 | 0, _, _ => rfl
 | d + 1, j, r => by simp [dv1, dv1_len p q g a d]
theorem dv1_inR {p : Int} (hp : 0 < p) (q : Int) (g : List Int) (a : Nat) : ∀ d j r, InR p r → InR p (dv1 p q g a r j d)
 | 0, _, _, h => h
 | d + 1, j, r, h => dv1_inR hp q g a d (j + 1) _ (h.set _ (emod_bd hp))
theorem dvR_len (p iv : Int) (g : List Int) : ∀ m q r, (dvR p iv g m q r).1.length = q.length ∧ (dvR p iv g m q r).2.length = r.length
 | 0, _, _ => ⟨rfl, rfl⟩
 | m + 1, q, r => by have := dvR_len p iv g m (q.set m (r.getD (m + g.length - 1) 0 * iv % p)) (dv1 p (r.getD (m + g.length - 1) 0 * iv % p) g m r 0 g.length); simpa [dvR, dv1_len] using this
theorem dvR_inR {p : Int} (hp : 0 < p) (iv : Int) (g : List Int) : ∀ m q r, InR p q → InR p r → InR p (dvR p iv g m q r).1 ∧ InR p (dvR p iv g m q r).2
 | 0, _, _, h, h' => ⟨h, h'⟩
 | m + 1, q, r, h, h' => dvR_inR hp iv g m _ _ (h.set _ (emod_bd hp)) (dv1_inR hp _ g m _ _ _ h')
theorem dvR_top (p iv : Int) (g : List Int) (t : Nat) : ∀ m q r, m ≤ t → (dvR p iv g m q r).1.getD t 0 = q.getD t 0
 | 0, _, _, _ => rfl
 | m + 1, q, r, h => by
  rw [dvR, dvR_top p iv g t m _ _ (by omega)]
  simp only [List.getD_eq_getElem?_getD]
  rw [List.getElem?_set_ne (by omega)]
theorem spec_dstep {p : Int} {g r q : List Int} (k a j : Nat) (n iv c : Int) (hn : n = g.length) (hp : 2 ≤ p) (hp2 : p ≤ 10007) (hj : j < g.length) (hL : a + j < r.length) (h5 : a + j ≤ 100000)
  (hb : 0 ≤ c * g.getD j 0 ∧ c * g.getD j 0 ≤ 1000700000) (ha : 0 ≤ r.getD (a + j) 0 ∧ r.getD (a + j) 0 ≤ 100000) :
  spec_l01Divide.l1 (k + 1) p g r n q iv (a : Int) c (j : Int) = spec_l01Divide.l1 k p g (r.set (a + j) ((r.getD (a + j) 0 - c * g.getD j 0) % p)) n q iv (a : Int) c ((j + 1 : Nat) : Int) := by
 subst hn
 have hw : wrap64 ((a : Int) + (j : Int)) = ((a + j : Nat) : Int) := by rw [w64 (by omega) (by omega)]; omega
 have q1 : (j : Int) < (g.length : Int) := by omega
 have q2 : (0 : Int) ≤ ((a + j : Nat) : Int) := by omega
 have q3 : ((a + j : Nat) : Int) < (r.length : Int) := by omega
 have q6 : (0 : Int) ≤ (j : Int) := by omega
 have w1 : wrap64 (c * g.getD j 0) = c * g.getD j 0 := w64 (by omega) (by omega)
 have w2 : wrap64 (r.getD (a + j) 0 - c * g.getD j 0) = r.getD (a + j) 0 - c * g.getD j 0 := w64 (by omega) (by omega)
 have w3 : wrap64 ((j : Int) + 1) = ((j + 1 : Nat) : Int) := wn (by omega)
 have w4 : spec_l01Mod.f p (r.getD (a + j) 0 - c * g.getD j 0) = some ((r.getD (a + j) 0 - c * g.getD j 0) % p) := spec_mod (by omega) (by omega)
 simp only [spec_l01Divide.l1, hw]
 rw [if_pos q1, if_pos q2, if_pos q3, if_pos q6, if_pos q1, rd_nat, rd_nat, w1, w2, w3, w4, Int.toNat_natCast, Option.bind_some]
theorem impl_dstep {p : Int} {g r q : List Int} (k a j : Nat) (hp : 2 ≤ p) (hp2 : p ≤ 10007) (hj : j < g.length) (hL : a + j < r.length) (h5 : a + j ≤ 100000) (haq : a < q.length)
  (hb : 0 ≤ q.getD a 0 * g.getD j 0 ∧ q.getD a 0 * g.getD j 0 ≤ 1000700000) (ha : 0 ≤ r.getD (a + j) 0 ∧ r.getD (a + j) 0 ≤ 100000) :
  impl_field_divide.l1 (k + 1) p g r q (a : Int) g (g.length : Int) (j : Int) = impl_field_divide.l1 k p g (r.set (a + j) ((r.getD (a + j) 0 - q.getD a 0 * g.getD j 0) % p)) q (a : Int) g (g.length : Int) ((j + 1 : Nat) : Int) := by
 have hw : wrap64 ((a : Int) + (j : Int)) = ((a + j : Nat) : Int) := by rw [w64 (by omega) (by omega)]; omega
 have q1 : (j : Int) < (g.length : Int) := by omega
 have q2 : (0 : Int) ≤ ((a + j : Nat) : Int) := by omega
 have q3 : ((a + j : Nat) : Int) < (r.length : Int) := by omega
 have q6 : (0 : Int) ≤ (j : Int) := by omega
 have q7 : (0 : Int) ≤ (a : Int) := by omega
 have q8 : (a : Int) < (q.length : Int) := by omega
 have w1 : wrap64 (q.getD a 0 * g.getD j 0) = q.getD a 0 * g.getD j 0 := w64 (by omega) (by omega)
 have w2 : wrap64 (r.getD (a + j) 0 - q.getD a 0 * g.getD j 0) = r.getD (a + j) 0 - q.getD a 0 * g.getD j 0 := w64 (by omega) (by omega)
 have w3 : wrap64 ((j : Int) + 1) = ((j + 1 : Nat) : Int) := wn (by omega)
 have w4 : impl_field_mod.f p (r.getD (a + j) 0 - q.getD a 0 * g.getD j 0) = some ((r.getD (a + j) 0 - q.getD a 0 * g.getD j 0) % p) := impl_mod (by omega) (by omega)
 simp only [impl_field_divide.l1, hw]
 rw [if_pos q1, if_pos q6, if_pos q1, if_pos q2, if_pos q3, if_pos q7, if_pos q8, rd_nat, rd_nat, rd_nat, w1, w2, w3, w4, Int.toNat_natCast, Option.bind_some]
theorem wm {m : Nat} (h : m ≤ 1000000) : wrap64 ((m : Int) - 1) = (m : Int) - 1 := w64 (by omega) (by omega)
theorem spec_divide {p : Int} {f g : List Int} (hp : 2 ≤ p) (hp2 : p ≤ 10007) (hf : f.length ≤ 1000) (hg : g.length ≤ 1000) (h0 : 0 < g.length) (rf : InR p f) (rg : InR p g) :
  Ev (fun k => spec_l01Divide.f k p f g) (trimL (divL p f g).1, (divL p f g).2) := by
 have inner : ∀ (a : Nat) (c iv : Int) (q : List Int) (res : List Int × List Int), a ≤ 1000 → 0 ≤ c ∧ c < p → ∀ d j (r : List Int), j + d = g.length → a + g.length ≤ r.length → InR p r →
   Ev (fun k => spec_l01Divide.l0 k p g (dv1 p c g a r j d) (g.length : Int) q iv ((a : Int) - 1)) res → Ev (fun k => spec_l01Divide.l1 k p g r (g.length : Int) q iv (a : Int) c (j : Int)) res := by
  intro a c iv q res ha1 hc d
  induction d with
  | zero =>
   intro j r h1 h2 h3 ⟨K, h⟩
   refine ⟨K + 1, fun k hk => ?_⟩
   obtain ⟨k, rfl⟩ : ∃ m, k = m + 1 := ⟨k - 1, by omega⟩
   have e := h k (by omega)
   simp only [dv1] at e
   simp only [spec_l01Divide.l1]
   rw [if_neg (by omega), wm (by omega), e]
  | succ d ih =>
   intro j r h1 h2 h3 h
   obtain ⟨K, h⟩ := ih (j + 1) (r.set (a + j) ((r.getD (a + j) 0 - c * g.getD j 0) % p)) (by omega) (by simpa using h2) (h3.set _ (emod_bd (by omega))) h
   refine ⟨K + 1, fun k hk => ?_⟩
   obtain ⟨k, rfl⟩ : ∃ m, k = m + 1 := ⟨k - 1, by omega⟩
   have e := h k (by omega)
   simp only at e
   have hb := mul_bd2 hp2 hc (y := g.getD j 0) (by have := rg.get (by omega) j; omega)
   have ha := h3.get (by omega) (a + j)
   exact (spec_dstep k a j _ iv c rfl hp hp2 (by omega) (by omega) (by omega) hb ⟨ha.1, by omega⟩).trans e
 have outer : ∀ (iv : Int), 0 ≤ iv ∧ iv < p → ∀ m (q r : List Int), m ≤ 1000 → m ≤ q.length → (m = 0 ∨ m + g.length - 1 ≤ r.length) → q.length ≤ 1001 → r.length ≤ 1001 → InR p q → InR p r →
   Ev (fun k => spec_l01Divide.l0 k p g r (g.length : Int) q iv ((m : Int) - 1)) (trimL (dvR p iv g m q r).1, trimL (dvR p iv g m q r).2) := by
  intro iv hiv m
  induction m with
  | zero =>
   intro q r h1 h2 h3 h4 h5 h6 h7
   obtain ⟨K, h⟩ := spec_trim q (by omega)
   obtain ⟨K', h'⟩ := spec_trim r (by omega)
   refine ⟨K + K' + 1, fun k hk => ?_⟩
   obtain ⟨k, rfl⟩ : ∃ m, k = m + 1 := ⟨k - 1, by omega⟩
   have e := h k (by omega)
   have e' := h' k (by omega)
   simp only at e e'
   simp only [spec_l01Divide.l0]
   rw [if_neg (by omega), e, Option.bind_some, e']
   rfl
  | succ m ih =>
   intro q r h1 h2 h3 h4 h5 h6 h7
   have hr := h7.get (by omega) (m + g.length - 1)
   have hb := mul_bd2 hp2 hr (y := iv) (by omega)
   have hcb := emod_bd (x := r.getD (m + g.length - 1) 0 * iv) (p := p) (by omega)
   obtain ⟨K, h⟩ := inner m _ iv (q.set m (r.getD (m + g.length - 1) 0 * iv % p)) _ (by omega) hcb g.length 0 r (by omega) (by omega) h7
    (ih (q.set m (r.getD (m + g.length - 1) 0 * iv % p)) (dv1 p (r.getD (m + g.length - 1) 0 * iv % p) g m r 0 g.length) (by omega) (by simp; omega) (by rw [dv1_len]; omega) (by simpa using h4) (by rw [dv1_len]; exact h5) (h6.set _ hcb) (dv1_inR (by omega) _ g m _ _ _ h7))
   refine ⟨K + 1, fun k hk => ?_⟩
   obtain ⟨k, rfl⟩ : ∃ m, k = m + 1 := ⟨k - 1, by omega⟩
   have e := h k (by omega)
   simp only [Int.natCast_zero] at e
   have hm : ((m + 1 : Nat) : Int) - 1 = (m : Int) := by omega
   have hw : wrap64 (wrap64 ((m : Int) + (g.length : Int)) - 1) = ((m + g.length - 1 : Nat) : Int) := by rw [w64 (x := (m : Int) + (g.length : Int)) (by omega) (by omega), w64 (by omega) (by omega)]; omega
   have q1 : (m : Int) ≥ 0 := by omega
   have q2 : (0 : Int) ≤ ((m + g.length - 1 : Nat) : Int) := by omega
   have q3 : ((m + g.length - 1 : Nat) : Int) < (r.length : Int) := by omega
   have q4 : ¬ p = 0 := by omega
   have q5 : (m : Int) < (q.length : Int) := by omega
   have w1 : wrap64 (r.getD (m + g.length - 1) 0 * iv) = r.getD (m + g.length - 1) 0 * iv := w64 (by omega) (by omega)
   simp only [spec_l01Divide.l0, hm, hw]
   rw [if_pos q1, if_pos q2, if_pos q3, if_neg q4, if_pos q1, if_pos q5, rd_nat, w1, tmod_nn hb.1, Int.toNat_natCast, e]
   rfl
 unfold divL
 by_cases hlt : f.length < g.length
 ·
  rw [if_pos hlt]
  refine ⟨0, fun k _ => ?_⟩
  simp only [spec_l01Divide.f, own_some f (by omega), Option.bind_some]
  rw [if_pos (by omega)]
  rfl
 ·
  rw [if_neg hlt]
  have hiv := inv_bd (p := p) (by omega) (g.getD (g.length - 1) 0)
  obtain ⟨K1, h1⟩ := spec_inverse (x := g.getD (g.length - 1) 0) hp hp2
  obtain ⟨K2, h2⟩ := outer _ hiv (f.length - g.length + 1) (List.replicate (f.length - g.length + 1) 0) f (by omega) (by simp) (by omega) (by simp; omega) (by omega) (InR.zeros (by omega) _) rf
  refine ⟨K1 + K2, fun k hk => ?_⟩
  have e1 := h1 k (by omega)
  have e2 := h2 k (by omega)
  simp only at e1 e2
  have a1 : wrap64 ((f.length : Int) - (g.length : Int)) = ((f.length - g.length + 1 : Nat) : Int) - 1 := by rw [w64 (by omega) (by omega)]; omega
  have a2 : wrap64 (((f.length - g.length + 1 : Nat) : Int) - 1 + 1) = ((f.length - g.length + 1 : Nat) : Int) := by rw [w64 (by omega) (by omega)]; omega
  have a3 : wrap64 ((g.length : Int) - 1) = ((g.length - 1 : Nat) : Int) := by rw [w64 (by omega) (by omega)]; omega
  have q1 : ¬ (f.length : Int) < (g.length : Int) := by omega
  have q2 : (0 : Int) ≤ ((f.length - g.length + 1 : Nat) : Int) := by omega
  have q3 : ((f.length - g.length + 1 : Nat) : Int).toNat ≤ 35184372088832 := by omega
  have q4 : (0 : Int) ≤ ((g.length - 1 : Nat) : Int) := by omega
  have q5 : ((g.length - 1 : Nat) : Int) < (g.length : Int) := by omega
  simp only [spec_l01Divide.f, own_some f (show f.length < 17592186044416 by omega), Option.bind_some, a1, a2, a3]
  rw [if_neg q1, if_pos q2, if_pos q3, if_pos q4, if_pos q5, rd_nat, e1, Option.bind_some, Int.toNat_natCast]
  exact e2
theorem impl_div {p x y : Int} (hp : 2 ≤ p) (hp2 : p ≤ 10007) (hx : 0 ≤ x ∧ x < p) (hy : 0 ≤ y ∧ y < p) : Ev (fun k => impl_field_div.f k p x y) (x * inv p y % p) := by
 obtain ⟨K, h⟩ := impl_inverse (x := y) hp hp2 hy.1 hy.2
 have hiv := inv_bd (p := p) (by omega) y
 have hb := mul_bd2 hp2 hx (y := inv p y) (by omega)
 refine ⟨K, fun k hk => ?_⟩
 have e := h k hk
 simp only at e
 have e' : impl_field_inverse.f k p y = some (inv p y) := e
 simp only [impl_field_div.f, e', Option.bind_some, impl_mul (show 0 < p by omega) (show p ≤ 1000000000 by omega) (show -9223372036854775808 ≤ x * inv p y by omega) (show x * inv p y ≤ 9223372036854775807 by omega)]
theorem impl_divide {p : Int} {f g : List Int} (hp : 2 ≤ p) (hp2 : p ≤ 10007) (hf : f.length ≤ 1000) (hg : g.length ≤ 1000) (h0 : 0 < g.length) (rf : InR p f) (rg : InR p g) :
  Ev (fun k => impl_field_divide.f k p f g) (divL p f g) := by
 have hlast := rg.get (by omega) (g.length - 1)
 obtain ⟨iv, hiv0⟩ : ∃ iv, iv = inv p (g.getD (g.length - 1) 0) := ⟨_, rfl⟩
 have hiv : 0 ≤ iv ∧ iv < p := by rw [hiv0]; exact inv_bd (by omega) _
 have inner : ∀ (a : Nat) (c : Int) (q : List Int) (res : List Int × List Int), a ≤ 1000 → a < q.length → q.getD a 0 = c → 0 ≤ c ∧ c < p → ∀ d j (r : List Int), j + d = g.length → a + g.length ≤ r.length → InR p r →
   Ev (fun k => impl_field_divide.l0 k p g (dv1 p c g a r j d) q ((a : Int) - 1)) res → Ev (fun k => impl_field_divide.l1 k p g r q (a : Int) g (g.length : Int) (j : Int)) res := by
  intro a c q res ha1 haq hqc hc d
  induction d with
  | zero =>
   intro j r h1 h2 h3 ⟨K, h⟩
   refine ⟨K + 1, fun k hk => ?_⟩
   obtain ⟨k, rfl⟩ : ∃ m, k = m + 1 := ⟨k - 1, by omega⟩
   have e := h k (by omega)
   simp only [dv1] at e
   simp only [impl_field_divide.l1]
   rw [if_neg (by omega), wm (by omega), e]
  | succ d ih =>
   intro j r h1 h2 h3 h
   obtain ⟨K, h⟩ := ih (j + 1) (r.set (a + j) ((r.getD (a + j) 0 - c * g.getD j 0) % p)) (by omega) (by simpa using h2) (h3.set _ (emod_bd (by omega))) h
   refine ⟨K + 1, fun k hk => ?_⟩
   obtain ⟨k, rfl⟩ : ∃ m, k = m + 1 := ⟨k - 1, by omega⟩
   have e := h k (by omega)
   simp only at e
   have hb := mul_bd2 hp2 hc (y := g.getD j 0) (by have := rg.get (by omega) j; omega)
   have ha := h3.get (by omega) (a + j)
   subst hqc
   exact (impl_dstep k a j hp hp2 (by omega) (by omega) (by omega) haq hb ⟨ha.1, by omega⟩).trans e
 have outer : ∀ m (q r : List Int), m ≤ 1000 → m ≤ q.length → (m = 0 ∨ m + g.length - 1 ≤ r.length) → q.length ≤ 1001 → r.length ≤ 1001 → InR p q → InR p r →
   Ev (fun k => impl_field_divide.l0 k p g r q ((m : Int) - 1)) ((dvR p iv g m q r).1, trimL (dvR p iv g m q r).2) := by
  intro m
  induction m with
  | zero =>
   intro q r h1 h2 h3 h4 h5 h6 h7
   obtain ⟨K', h'⟩ := impl_trim r (by omega)
   refine ⟨K' + 1, fun k hk => ?_⟩
   obtain ⟨k, rfl⟩ : ∃ m, k = m + 1 := ⟨k - 1, by omega⟩
   have e' := h' k (by omega)
   simp only at e'
   simp only [impl_field_divide.l0]
   rw [if_neg (by omega), e']
   rfl
  | succ m ih =>
   intro q r h1 h2 h3 h4 h5 h6 h7
   have hr := h7.get (by omega) (m + g.length - 1)
   have hcb := emod_bd (x := r.getD (m + g.length - 1) 0 * iv) (p := p) (by omega)
   obtain ⟨K0, hd⟩ := impl_div hp hp2 hr hlast
   obtain ⟨K, h⟩ := inner m _ (q.set m (r.getD (m + g.length - 1) 0 * iv % p)) _ (by omega) (by simp; omega) (by simp only [List.getD_eq_getElem?_getD]; rw [List.getElem?_set_self (by omega)]; rfl) hcb g.length 0 r (by omega) (by omega) h7
    (ih (q.set m (r.getD (m + g.length - 1) 0 * iv % p)) (dv1 p (r.getD (m + g.length - 1) 0 * iv % p) g m r 0 g.length) (by omega) (by simp; omega) (by rw [dv1_len]; omega) (by simpa using h4) (by rw [dv1_len]; exact h5) (h6.set _ hcb) (dv1_inR (by omega) _ g m _ _ _ h7))
   refine ⟨K0 + K + 1, fun k hk => ?_⟩
   obtain ⟨k, rfl⟩ : ∃ m, k = m + 1 := ⟨k - 1, by omega⟩
   have e := h k (by omega)
   have ed := hd k (by omega)
   simp only [Int.natCast_zero] at e
   simp only [← hiv0] at ed
   have hm : ((m + 1 : Nat) : Int) - 1 = (m : Int) := by omega
   have hw : wrap64 (wrap64 ((m : Int) + (g.length : Int)) - 1) = ((m + g.length - 1 : Nat) : Int) := by rw [w64 (x := (m : Int) + (g.length : Int)) (by omega) (by omega), w64 (by omega) (by omega)]; omega
   have a3 : wrap64 ((g.length : Int) - 1) = ((g.length - 1 : Nat) : Int) := by rw [w64 (by omega) (by omega)]; omega
   have q1 : (m : Int) ≥ 0 := by omega
   have q2 : (0 : Int) ≤ ((m + g.length - 1 : Nat) : Int) := by omega
   have q3 : ((m + g.length - 1 : Nat) : Int) < (r.length : Int) := by omega
   have q4 : (0 : Int) ≤ ((g.length - 1 : Nat) : Int) := by omega
   have q6 : ((g.length - 1 : Nat) : Int) < (g.length : Int) := by omega
   have q5 : (m : Int) < (q.length : Int) := by omega
   simp only [impl_field_divide.l0, hm, hw, a3]
   rw [if_pos q1, if_pos q2, if_pos q3, if_pos q4, if_pos q6, rd_nat, rd_nat, ed, Option.bind_some, if_pos q1, if_pos q5, Int.toNat_natCast, e]
   rfl
 have hcl : slices_Clone_int64_int64.f f = some f := by simp [slices_Clone_int64_int64.f, show f.length < 17592186044416 by omega]
 unfold divL
 by_cases hlt : f.length < g.length
 ·
  rw [if_pos hlt]
  refine ⟨0, fun k _ => ?_⟩
  simp only [impl_field_divide.f, hcl, Option.bind_some]
  rw [if_pos (by omega)]
 ·
  rw [if_neg hlt]
  obtain ⟨K2, h2⟩ := outer (f.length - g.length + 1) (List.replicate (f.length - g.length + 1) 0) f (by omega) (by simp) (by omega) (by simp; omega) (by omega) (InR.zeros (by omega) _) rf
  refine ⟨K2, fun k hk => ?_⟩
  have e2 := h2 k (by omega)
  simp only at e2
  have a1 : wrap64 ((f.length : Int) - (g.length : Int)) = ((f.length - g.length + 1 : Nat) : Int) - 1 := by rw [w64 (by omega) (by omega)]; omega
  have a2 : wrap64 (((f.length - g.length + 1 : Nat) : Int) - 1 + 1) = ((f.length - g.length + 1 : Nat) : Int) := by rw [w64 (by omega) (by omega)]; omega
  have q1 : ¬ (f.length : Int) < (g.length : Int) := by omega
  have q2 : (0 : Int) ≤ ((f.length - g.length + 1 : Nat) : Int) := by omega
  have q3 : ((f.length - g.length + 1 : Nat) : Int).toNat ≤ 35184372088832 := by omega
  have a4 : wrap64 (((List.replicate (f.length - g.length + 1) (0 : Int)).length : Int) - 1) = ((f.length - g.length + 1 : Nat) : Int) - 1 := by rw [List.length_replicate, wm (by omega)]
  simp only [impl_field_divide.f, hcl, Option.bind_some, a1, a2]
  rw [if_neg q1, if_pos q2, if_pos q3]
  simp only [Int.toNat_natCast, a4]
  rw [e2, hiv0]
theorem inv_ne0 {p x : Int} (hp : IsP p) (hx : 0 < x ∧ x < p) : 0 < inv p x ∧ inv p x < p := by
 have hb := inv_bd (p := p) (by have := hp.1; omega) x
 refine ⟨?_, hb.2⟩
 rcases Int.lt_or_eq_of_le hb.1 with h | h
 ·
  exact h
 ·
  exfalso
  obtain ⟨a, rfl⟩ : ∃ a : Nat, x = a := ⟨x.toNat, by omega⟩
  obtain ⟨n, hn⟩ : ∃ n : Nat, p = n := ⟨p.toNat, by have := hp.1; omega⟩
  subst hn
  have hpr : Pr n := by simpa using hp.2.2
  have hnd : ¬ n ∣ a := fun h => by have := Nat.le_of_dvd (by omega) h; omega
  apply hpr.pow hnd ((n : Int) - 2).toNat
  apply Nat.dvd_of_mod_eq_zero
  have h' : ((a ^ ((n : Int) - 2).toNat % n : Nat) : Int) = 0 := by
   have := h.symm
   unfold inv at this
   simpa using this
  omega
theorem divL_trim {p : Int} {f g : List Int} (hp : IsP p) (pf : Po p f) (pg : Po p g) (hg : 0 < g.length) : trimL (divL p f g).1 = (divL p f g).1 := by
 unfold divL
 by_cases hlt : f.length < g.length
 ·
  rw [if_pos hlt]; rfl
 ·
  rw [if_neg hlt]
  apply trimL_id
  right
  obtain ⟨m, hm⟩ : ∃ m, f.length - g.length + 1 = m + 1 := ⟨f.length - g.length, rfl⟩
  have hp0 : 0 < p := by have := hp.1; omega
  have hl := (dvR_len p (inv p (g.getD (g.length - 1) 0)) g (m + 1) (List.replicate (m + 1) 0) f).1
  simp only [hm]
  rw [hl, List.length_replicate, Nat.add_sub_cancel, dvR, dvR_top _ _ _ _ _ _ _ (Nat.le_refl m)]
  simp only [List.getD_eq_getElem?_getD]
  rw [List.getElem?_set_self (by simp)]
  simp only [Option.getD_some]
  rw [← List.getD_eq_getElem?_getD, ← List.getD_eq_getElem?_getD, show m + g.length - 1 = f.length - 1 by omega]
  exact mul_ne0 hp (pf.last_bd hp0 (by omega)) (inv_ne0 hp (pg.last_bd hp0 hg))
end Go.Proofs.Ytlmolloallhclaa.H
set_option linter.unusedVariables false
set_option linter.unusedSimpArgs false
namespace Go.Proofs.Ytlmolloallhclaa.H
open Go.RowKit Go.Proofs.YtlmolloallhclaaW.PrintWords Go.Proofs.Ytlmolloallhclaa.Num
theorem Ev.succ {α : Type} {g : Nat → Option α} {r : α} (h : Ev (fun k => g (k + 1)) r) : Ev g r := by
 obtain ⟨K, h⟩ := h
 refine ⟨K + 1, fun k hk => ?_⟩
 obtain ⟨m, rfl⟩ : ∃ m, k = m + 1 := ⟨k - 1, by omega⟩
 exact h m (by omega)
theorem Ev_to {α : Type} {g : Nat → Option α} {r r' : α} (h : Ev g r) (e : r = r') : Ev g r' := e ▸ h
theorem wp1 {i : Nat} (h : i ≤ 1000000000000) : wrap64 ((i : Int) + 1) = ((i + 1 : Nat) : Int) := by rw [w64 (by omega) (by omega)]; omega
theorem wm1 {i : Nat} (h : i ≤ 1000000000000) : wrap64 ((i : Int) - 1) = (i : Int) - 1 := w64 (by omega) (by omega)
theorem ws1 {i : Nat} : ((i + 1 : Nat) : Int) - 1 = (i : Int) := by omega
theorem rd_n (l : List Int) (i : Nat) : rd l (i : Int) = l.getD i 0 := by simp [rd]
end Go.Proofs.Ytlmolloallhclaa.H
namespace Go.Proofs.Ytlmolloallhclaa.H
open Go.RowKit Go.Proofs.YtlmolloallhclaaW.PrintWords Go.Proofs.YtlmolloallhclaaW.PrintLast Go.Proofs.YtlmolloallhclaaW.PrintMore
attribute [local go_sem] max2_int min2_int max_two min_two max_three min_three max_four min_four   -- for this text's walks alone
set_option linter.unusedVariables false
set_option linter.unusedSimpArgs false
def spec_l01At.l0 : Nat → Int → List Int → Int → Int → Int → Option (Int)
 | 0, _, _, _, _, _ => none
 | k + 1, x0, x1, x2, x7, x8 => if x8 ≥ 0 then (if 0 ≤ x8 then (if x8 < (x1.length : Int) then (if x0 = 0 then (none) else (spec_l01At.l0 k x0 x1 x2 (Int.tmod (wrap64 ((wrap64 (x7 * x2)) + (rd x1 x8))) x0) (wrap64 (x8 - 1)))) else (none)) else (none)) else (some x7)
def spec_l01At.f (k : Nat) (a0 : Int) (l1 : List Int) (a2 : Int) : Option (Int) := spec_l01At.l0 k a0 l1 a2 0 (wrap64 ((l1.length : Int) - 1))
set_option maxHeartbeats 8000000 in
set_option maxRecDepth 100000 in
theorem spec_l01At.calls (k : Nat) (a0 : Int) (A1 : Option Addr) (c1 : Nat) (l1 : List Int) (a2 : Int) (r : Int) (w : World) (hr1 : Kd.C (Kd.int .i64) w A1 l1.length l1) (hc1 : l1.length ≤ c1) (h : spec_l01At.f k a0 l1 a2 = some r) :
  Calls Try.prog 110 #[.int .i64 a0, .slice A1 l1.length c1, .int .i64 a2] w fun e w' => e = .returned (.int .i64 r) ∧ Drawn0 w w' := by
 have HR1 := as0 hr1
 have HC1 := as0 hc1
 clear hr1 hc1
 have H : (spec_l01At.l0 k a0 l1 a2 0 (wrap64 ((l1.length : Int) - 1))) = some r := h
 clear h
 have H' := as0 H
 clear H
 go_enter Try.func110, Try.ntmps110
 go_wp2
 go_loopg [7, 8] k (fun kq v7 v8 w' => ∃ (x7_1 : Int) (x8_1 : Int), v7 = .int .i64 x7_1 ∧ v8 = .int .i64 x8_1 ∧ Aside0 (spec_l01At.l0 kq a0 l1 a2 x7_1 x8_1 = some r) ∧ Aside0 (kq ≤ k) ∧ Drawn0 w w')
 case atStart => exact ⟨(0), (wrap64 ((l1.length : Int) - 1)), ea_, ea_, H', ⟨Nat.le_refl _⟩, dr_⟩
 case round =>
  clear H'
  try clear c1
  try clear p2
  obtain ⟨x7_1, x8_1, rfl, rfl, HA, HK1, ⟨m1, rfl⟩⟩ := hrel
  cases gk with
  | zero => exact absurd HA.out (by simp [spec_l01At.l0])
  | succ k1 =>
   have H := HA.out
   clear HA
   simp only [spec_l01At.l0] at H
   by_cases c4 : x8_1 ≥ 0
   ·
    rw [if_pos c4] at H
    have c4b0 : decide (0 ≤ x8_1) = true := decide_eq_true c4
    clear c4
    by_cases c5 : 0 ≤ x8_1
    ·
     rw [if_pos c5] at H
     have c5b0 : decide (0 ≤ x8_1) = true := decide_eq_true c5
     clear c5
     by_cases c6 : x8_1 < (l1.length : Int)
     ·
      rw [if_pos c6] at H
      have c6b0 : decide (x8_1 < (l1.length : Int)) = true := decide_eq_true c6
      clear c6
      by_cases c7 : a0 = 0
      ·
       rw [if_pos c7] at H
       exact absurd H (by simp)
      ·
       rw [if_neg c7] at H
       have c7b0 : (a0 == 0) = false := beq_eq_false_iff_ne.mpr c7
       have c7b1 : (a0 != 0) = true := bne_iff_ne.mpr c7
       have H' := as0 H
       clear H
       have p493 : 0 ≤ (x8_1 : Int) := oa_
       have q493 : x8_1 < (l1.length : Int) := oa_
       obtain ⟨ad493, e493, hx493_0⟩ := Kd.at_int HR1.out x8_1 p493 q493
       cases e493
       replace p493 := eq_true p493
       replace q493 := eq_true q493
       go_wp2
       go_roundg k1
       case measure => have := HK1.out; omega
       case rel => exact ⟨(Int.tmod (wrap64 ((wrap64 (x7_1 * a2)) + (rd l1 x8_1))) a0), (wrap64 (x8_1 - 1)), ea_, ea_, H', ⟨by have := HK1.out; omega⟩, dr_⟩
     ·
      rw [if_neg c6] at H
      exact absurd H (by simp)
    ·
     rw [if_neg c5] at H
     exact absurd H (by simp)
   ·
    rw [if_neg c4] at H
    have c4b0 : decide (0 ≤ x8_1) = false := decide_eq_false c4
    clear c4
    obtain rfl := Option.some.inj H
    go_wp2
    go_ret
    exact ⟨ea_, dr_⟩
end Go.Proofs.Ytlmolloallhclaa.H
set_option linter.unusedVariables false
set_option linter.unusedSimpArgs false
namespace Go.Proofs.Ytlmolloallhclaa.H
open Go.RowKit Go.Proofs.YtlmolloallhclaaW.PrintWords Go.Proofs.YtlmolloallhclaaW.PrintLast Go.Proofs.YtlmolloallhclaaW.PrintMore Go.Proofs.Ytlmolloallhclaa.Num
theorem _root_.Go.Proofs.Ytlmolloallhclaa.Num.IsP.p2 {p : Int} (h : IsP p) : 2 ≤ p := h.1
theorem _root_.Go.Proofs.Ytlmolloallhclaa.Num.IsP.pm {p : Int} (h : IsP p) : p ≤ 10007 := h.2.1
theorem _root_.Go.Proofs.Ytlmolloallhclaa.Num.IsP.p0 {p : Int} (h : IsP p) : 0 < p := by have := h.1; omega
def valL (p : Int) (f : List Int) (x : Int) : Int := f.foldr (fun c o => (o * x + c) % p) 0
theorem valL_bd {p : Int} (hp : 0 < p) (f : List Int) (x : Int) : 0 ≤ valL p f x ∧ valL p f x < p := by
 cases f with
 | nil => exact ⟨Int.le_refl _, hp⟩
 | cons c f => exact emod_bd hp
theorem hor_bd {p o x c : Int} (hp2 : p ≤ 10007) (ho : 0 ≤ o ∧ o < p) (hx : 0 ≤ x ∧ x < p) (hc : 0 ≤ c ∧ c < p) : 0 ≤ o * x ∧ o * x ≤ 1000700000 ∧ 0 ≤ o * x + c ∧ o * x + c ≤ 2000000000 := by
 have := mul_bd2 hp2 ho (y := x) (by omega); omega
theorem impl_val {p x : Int} {f : List Int} (hp : 2 ≤ p) (hp2 : p ≤ 10007) (rf : InR p f) (hx : 0 ≤ x ∧ x < p) : impl_field_value.f p f x = some (valL p f x) := by
 unfold impl_field_value.f
 rw [if_neg (by omega)]
 congr 1
 induction f with
 | nil => rfl
 | cons c f ih =>
  have hc := rf c (by simp)
  have rf' : InR p f := fun y hy => rf y (by simp [hy])
  have hb := valL_bd (p := p) (by omega) f x
  have h := hor_bd hp2 hb hx hc
  rw [List.foldr_cons, ih rf', stepv, w64 (x := valL p f x * x) (by omega) (by omega), w64 (by omega) (by omega), impl_mod (by omega) (by omega)]
  rfl
theorem spec_val {p x : Int} {f : List Int} (hp : 2 ≤ p) (hp2 : p ≤ 10007) (hf : f.length ≤ 1000) (rf : InR p f) (hx : 0 ≤ x ∧ x < p) : Ev (fun k => spec_l01At.f k p f x) (valL p f x) := by
 have loop : ∀ n, n ≤ f.length → Ev (fun k => spec_l01At.l0 k p f x (valL p (f.drop n) x) ((n : Int) - 1)) (valL p f x) := by
  intro n
  induction n with
  | zero => intro _; refine Ev.succ ?_; simp (disch := omega) only [spec_l01At.l0, if_neg, List.drop_zero]; exact Ev.now _
  | succ n ih =>
   intro hn
   have hb := valL_bd (p := p) (by omega) (f.drop (n + 1)) x
   have hc := rf.get (by omega) n
   have h := hor_bd hp2 hb hx hc
   have e : valL p (f.drop n) x = (valL p (f.drop (n + 1)) x * x + f.getD n 0) % p := by
    rw [List.drop_eq_getElem_cons (show n < f.length by omega), List.getD_eq_getElem?_getD, List.getElem?_eq_getElem (show n < f.length by omega)]
    rfl
   have hi := ih (by omega)
   rw [e] at hi
   refine Ev.succ ?_
   simp (disch := omega) only [spec_l01At.l0, ws1, if_pos, if_neg, rd_n, w64, wm1, tmod_nn]
   exact hi
 have h := loop f.length (Nat.le_refl _)
 rw [List.drop_length] at h
 simp only [spec_l01At.f, wm1 (show f.length ≤ 1000000000000 by omega)]
 exact h
end Go.Proofs.Ytlmolloallhclaa.H
namespace Go.Proofs.Ytlmolloallhclaa.H
open Go.RowKit Go.Proofs.YtlmolloallhclaaW.PrintWords Go.Proofs.YtlmolloallhclaaW.PrintLast Go.Proofs.YtlmolloallhclaaW.PrintMore
attribute [local go_sem] max2_int min2_int max_two min_two max_three min_three max_four min_four   -- for this text's walks alone
set_option linter.unusedVariables false
set_option linter.unusedSimpArgs false
def spec_l01Gcd.l0 : Nat → Int → List Int → List Int → Option (List Int)
 | 0, _, _, _ => none
 | k + 1, x0, x1, x2 => if (x2.length : Int) > 0 then ((spec_l01Divide.f k x0 x1 x2).bind fun bt722 => (spec_l01Gcd.l0 k x0 x2 bt722.2)) else ((spec_l01Monic.f k x0 x1).bind fun t728 => (some t728))
def spec_l01Gcd.f (k : Nat) (a0 : Int) (l1 : List Int) (l2 : List Int) : Option (List Int) := spec_l01Gcd.l0 k a0 l1 l2
set_option maxHeartbeats 8000000 in
set_option maxRecDepth 100000 in
theorem spec_l01Gcd.calls (k : Nat) (a0 : Int) (P1_ : Nat → Prop) (A1 : Option Addr) (c1 : Nat) (l1 : List Int) (P2_ : Nat → Prop) (A2 : Option Addr) (c2 : Nat) (l2 : List Int) (r : List Int) (w : World) (hs1 : Kd.V (Kd.int .i64) 2 w w.heap.size (fun k_ => P1_ k_) (.slice A1 l1.length c1) l1) (hs2 : Kd.V (Kd.int .i64) 2 w w.heap.size (fun k_ => P2_ k_) (.slice A2 l2.length c2) l2) (h : spec_l01Gcd.f k a0 l1 l2 = some r) :
  Calls Try.prog 73 #[.int .i64 a0, .slice A1 l1.length c1, .slice A2 l2.length c2] w fun e w' => ∃ v0_ : Value, e = .returned (v0_) ∧ Kd.R (Kd.int .i64) 2 w' w.heap.size (fun k_ => (w.heap.size ≤ k_)) v0_ r ∧ Below w.heap.size w w' := by
 have HO1 := as0 (show Kd.V (Kd.int .i64) 2 w w.heap.size (fun k_ => ((P1_ k_ ∨ P2_ k_) ∨ w.heap.size ≤ k_)) (.slice A1 l1.length c1) l1 from Kd.V_mono hs1 (fun k_ hk => .inl (.inl hk)))
 have HO2 := as0 (show Kd.V (Kd.int .i64) 2 w w.heap.size (fun k_ => ((P1_ k_ ∨ P2_ k_) ∨ w.heap.size ≤ k_)) (.slice A2 l2.length c2) l2 from Kd.V_mono hs2 (fun k_ hk => .inl (.inr hk)))
 have HB := as0 (Below.refl w.heap.size w)
 have H : (spec_l01Gcd.l0 k a0 l1 l2) = some r := h
 clear h
 have H' := as0 H
 clear H
 go_enter Try.func73, Try.ntmps73
 go_wp2
 go_loopg [1, 2] k (fun kq v1 v2 w' => ∃ (x1_1 : List Int) (x2_1 : List Int), Aside0 (spec_l01Gcd.l0 kq a0 x1_1 x2_1 = some r) ∧ Aside0 (kq ≤ k) ∧ Aside0 (Kd.V (Kd.int .i64) 2 w' w.heap.size (fun k_ => ((P1_ k_ ∨ P2_ k_) ∨ w.heap.size ≤ k_)) v1 x1_1) ∧ Aside0 (Kd.V (Kd.int .i64) 2 w' w.heap.size (fun k_ => ((P1_ k_ ∨ P2_ k_) ∨ w.heap.size ≤ k_)) v2 x2_1) ∧ Aside0 (Below w.heap.size w w'))
 case atStart => exact ⟨(l1), (l2), H', ⟨Nat.le_refl _⟩, ⟨by (with_reducible repeat (first | apply Kd.V_alloc | apply Kd.V_drewN | apply Kd.V_drew)); exact HO1.out⟩, ⟨by (with_reducible repeat (first | apply Kd.V_alloc | apply Kd.V_drewN | apply Kd.V_drew)); exact HO2.out⟩, ⟨bs HB⟩⟩
 case round =>
  clear H'
  try clear c1
  try clear c2
  try clear p2
  obtain ⟨x1_1, x2_1, HA, HK1, HO_1, HO_2, HB⟩ := hrel
  cases gk with
  | zero => exact absurd HA.out (by simp [spec_l01Gcd.l0])
  | succ k1 =>
   have H := HA.out
   clear HA
   simp only [spec_l01Gcd.l0] at H
   by_cases c4 : (x2_1.length : Int) > 0
   ·
    rw [if_pos c4] at H
    have c4b0 : decide (0 < (x2_1.length : Int)) = true := decide_eq_true c4
    have c4b1 : decide (0 < x2_1.length) = true := decide_eq_true (by omega)
    clear c4
    replace H := Option.bind_eq_some_iff.mp H
    obtain ⟨⟨t722, t723⟩, A50, H⟩ := H
    have A5 := as0 A50
    clear A50
    have H' := as0 H
    clear H
    obtain ⟨Ao6, co6, eo6⟩ := Kd.V_slice HO_2.out
    subst eo6
    obtain ⟨Ao7, co7, eo7⟩ := Kd.V_slice HO_1.out
    subst eo7
    go_wp2_with (first | ((with_reducible refine gate_callee (f := 42) rfl ?_); refine goesM_ (some 16) rfl rfl Try.func42 #[.int .i64 a0, .slice Ao7 x1_1.length co7, .slice Ao6 x2_1.length co6] rfl ?_; (with_reducible refine (spec_l01Divide.calls k1 a0 _ _ x1_1 _ _ x2_1 t722 t723 _ ?side1 ?side2 ?side3 ?side4 A5.out).mono ?_); (case side1 => exact cs ((Kd.V_reads' HO_1.out).2.2)); (case side2 => exact (Kd.V_reads' HO_1.out).2.1); (case side3 => exact cs ((Kd.V_reads' HO_2.out).2.2)); (case side4 => exact (Kd.V_reads' HO_2.out).2.1); rintro e w8 ⟨v724, v726, rfl, ho0, ho1, hb⟩; refine ⟨_, rfl, ?_⟩; have n0_ := as0 (Kd.V_mono (Kd.V_told (Kd.V_told (Kd.V_old (by (with_reducible repeat (first | apply Kd.V_alloc | apply Kd.V_drewN | apply Kd.V_drew)); exact HO_1.out) hb) (Kd.R_base ho0)) (Kd.R_base ho1)) (fun _ h_ => h_.1)); have n1_ := as0 (Kd.V_mono (Kd.V_told (Kd.V_told (Kd.V_old (by (with_reducible repeat (first | apply Kd.V_alloc | apply Kd.V_drewN | apply Kd.V_drew)); exact HO_2.out) hb) (Kd.R_base ho0)) (Kd.R_base ho1)) (fun _ h_ => h_.1)); have n2_ := as0 (Kd.R_lower (Kd.R_newM (M := fun k_ => (w.heap.size ≤ k_)) ho0 (below_size (bs HB)) (fun k_ h_ => h_)) (below_size (bs HB))); have n3_ := as0 (Kd.R_lower (Kd.R_newM (M := fun k_ => (w.heap.size ≤ k_)) ho1 (below_size (bs HB)) (fun k_ h_ => h_)) (below_size (bs HB))); have n4_ := as0 (below_step (bs HB) hb); clear HO_1; clear HO_2; clear HB; have HO_1 := n0_; have HO_2 := n1_; have HO725 := n2_; have HO727 := n3_; have HB := n4_; clear n0_ n1_ n2_ n3_ n4_; (try clear hb); (try clear hb2); (try clear hk); (try clear hi); (try clear ho0); (try clear ho1)))
    go_roundg k1
    case measure => have := HK1.out; omega
    case rel => exact ⟨(x2_1), (t723), H', ⟨by have := HK1.out; omega⟩, ⟨by (with_reducible repeat (first | apply Kd.V_alloc | apply Kd.V_drewN | apply Kd.V_drew)); exact Kd.V_mono HO_2.out (fun _ hk => hk.1.1)⟩, ⟨Kd.V_mono (Kd.R_V (by (with_reducible repeat (first | apply Kd.R_alloc | apply Kd.R_drewN | apply Kd.R_drew)); exact Kd.R_mono HO727.out (fun _ hk => hk.1))) (fun k_ hk => by first | exact ⟨(.inr (hk.1)), hk.2⟩ | exact (.inr (hk)))⟩, ⟨bs HB⟩⟩
   ·
    rw [if_neg c4] at H
    have c4b0 : decide (0 < (x2_1.length : Int)) = false := decide_eq_false c4
    have c4b1 : decide (0 < x2_1.length) = false := decide_eq_false (by omega)
    clear c4
    replace H := Option.bind_eq_some_iff.mp H
    obtain ⟨t728, A90, H⟩ := H
    have A9 := as0 A90
    clear A90
    obtain rfl := Option.some.inj H
    obtain ⟨Ao10, co10, eo10⟩ := Kd.V_slice HO_2.out
    subst eo10
    obtain ⟨Ao11, co11, eo11⟩ := Kd.V_slice HO_1.out
    subst eo11
    go_wp2_with (first | ((with_reducible refine gate_callee (f := 108) rfl ?_); refine goesM_ (some 23) rfl rfl Try.func108 #[.int .i64 a0, .slice Ao11 x1_1.length co11] rfl ?_; (with_reducible refine (spec_l01Monic.calls k1 a0 _ _ x1_1 t728 _ ?side1 ?side2 A9.out).mono ?_); (case side1 => exact cs ((Kd.V_reads' HO_1.out).2.2)); (case side2 => exact (Kd.V_reads' HO_1.out).2.1); rintro e w12 ⟨v729, rfl, ho0, hb⟩; refine ⟨_, rfl, ?_⟩; have n0_ := as0 (Kd.V_elder' (by (with_reducible repeat (first | apply Kd.V_alloc | apply Kd.V_drewN | apply Kd.V_drew)); exact HO_1.out) (Kd.R_base ho0) hb); have n1_ := as0 (Kd.V_elder' (by (with_reducible repeat (first | apply Kd.V_alloc | apply Kd.V_drewN | apply Kd.V_drew)); exact HO_2.out) (Kd.R_base ho0) hb); have n2_ := as0 (Kd.R_lower (Kd.R_newM (M := fun k_ => (w.heap.size ≤ k_)) ho0 (below_size (bs HB)) (fun k_ h_ => h_)) (below_size (bs HB))); have n3_ := as0 (below_step (bs HB) hb); clear HO_1; clear HO_2; clear HB; have HO_1 := n0_; have HO_2 := n1_; have HO730 := n2_; have HB := n3_; clear n0_ n1_ n2_ n3_; (try clear hb); (try clear hb2); (try clear hk); (try clear hi); (try clear ho0)))
    go_ret
    exact ⟨_, er_, by (with_reducible repeat (first | apply Kd.R_alloc | apply Kd.R_drewN | apply Kd.R_drew)); exact Kd.R_mono HO730.out (fun _ hk => hk.1), bs HB⟩
end Go.Proofs.Ytlmolloallhclaa.H
set_option linter.unusedVariables false
set_option linter.unusedSimpArgs false
namespace Go.Proofs.Ytlmolloallhclaa.H
open Go.RowKit Go.Proofs.YtlmolloallhclaaW.PrintWords Go.Proofs.YtlmolloallhclaaW.PrintLast Go.Proofs.YtlmolloallhclaaW.PrintMore Go.Proofs.Ytlmolloallhclaa.Num
def co (l : List Int) (i : Nat) : Int := l.getD i 0
theorem co_ge {l : List Int} {i : Nat} (h : l.length ≤ i) : co l i = 0 := by simp [co, List.getD_eq_getElem?_getD, h]
theorem co_set (l : List Int) (i j : Nat) (x : Int) (h : i < l.length) : co (l.set i x) j = if j = i then x else co l j := by
 unfold co
 simp only [List.getD_eq_getElem?_getD]
 by_cases e : j = i
 ·
  subst e; rw [List.getElem?_set_self h, if_pos rfl]; rfl
 ·
  rw [List.getElem?_set_ne (Ne.symm e), if_neg e]
theorem co_take {l : List Int} {n i : Nat} : co (l.take n) i = if i < n then co l i else 0 := by
 unfold co
 simp only [List.getD_eq_getElem?_getD, List.getElem?_take]
 split <;> rfl
theorem InR.co {p : Int} {l : List Int} (h : InR p l) (hp : 0 < p) (i : Nat) : 0 ≤ co l i ∧ co l i < p := h.get hp i
theorem tlen_zero (l : List Int) : ∀ n i, tlen l n ≤ i → i < n → l.getD i 0 = 0
 | 0, i, _, h => by omega
 | n + 1, i, h1, h2 => by
  unfold tlen at h1
  split at h1
  ·
   rename_i h0
   by_cases e : i = n
   ·
    subst e; exact h0
   ·
    exact tlen_zero l n i h1 (by omega)
  ·
   omega
theorem tlen_last (l : List Int) : ∀ n, tlen l n = 0 ∨ l.getD (tlen l n - 1) 0 ≠ 0
 | 0 => .inl rfl
 | n + 1 => by
  unfold tlen
  split
  ·
   exact tlen_last l n
  ·
   right; simpa using ‹_›
theorem trimL_length (l : List Int) : (trimL l).length = tlen l l.length := by
 unfold trimL; rw [List.length_take, Nat.min_eq_left (tlen_le _ _)]
theorem co_trim (l : List Int) (i : Nat) : co (trimL l) i = co l i := by
 unfold trimL
 rw [co_take]
 split
 ·
  rfl
 ·
  rename_i h
  by_cases hi : i < l.length
  ·
   exact (tlen_zero l l.length i (by omega) hi).symm
  ·
   exact (co_ge (by omega)).symm
def Nz (l : List Int) : Prop := l.length = 0 ∨ co l (l.length - 1) ≠ 0
theorem Nz.trim (l : List Int) : Nz (trimL l) := by
 unfold Nz
 rw [co_trim, trimL_length]
 exact tlen_last l l.length
theorem Nz.len_le {l : List Int} (h : Nz l) {n : Nat} (hz : ∀ i, n ≤ i → co l i = 0) : l.length ≤ n := by
 rcases h with h | h
 ·
  omega
 ·
  rcases Nat.lt_or_ge n l.length with hl | hl
  ·
   exact absurd (hz _ (by omega)) h
  ·
   exact hl
theorem Nz.ext {l l' : List Int} (h : Nz l) (h' : Nz l') (he : ∀ i, co l i = co l' i) : l = l' := by
 have h1 : l.length ≤ l'.length := h.len_le fun i hi => by rw [he]; exact co_ge hi
 have h2 : l'.length ≤ l.length := h'.len_le fun i hi => by rw [← he]; exact co_ge hi
 refine List.ext_getElem (by omega) fun i a b => ?_
 have := he i
 unfold co at this
 rwa [List.getD_eq_getElem?_getD, List.getD_eq_getElem?_getD, List.getElem?_eq_getElem a, List.getElem?_eq_getElem b] at this
theorem Po.nz {p : Int} {l : List Int} (h : Po p l) : Nz l := by
 rcases h.last with h0 | h0
 ·
  exact .inl h0
 ·
  by_cases hl : l.length = 0
  ·
   exact .inl hl
  ·
   right
   unfold co
   rwa [← rd_nat, show ((l.length - 1 : Nat) : Int) = (l.length : Int) - 1 by omega]
theorem Po.of {p : Int} {l : List Int} (hl : l.length ≤ 25) (hr : InR p l) (hz : Nz l) : Po p l := by
 refine ⟨hl, hr, ?_⟩
 rcases hz with h | h
 ·
  exact .inl h
 ·
  by_cases h0 : l.length = 0
  ·
   exact .inl h0
  ·
   right
   unfold co at h
   rwa [← rd_nat, show ((l.length - 1 : Nat) : Int) = (l.length : Int) - 1 by omega] at h
theorem Nz.top {p : Int} {l : List Int} (h : Nz l) (hr : InR p l) (hp : 0 < p) (h0 : 0 < l.length) : 0 < co l (l.length - 1) ∧ co l (l.length - 1) < p := by
 have h1 := hr.co hp (l.length - 1)
 rcases h with h2 | h2
 ·
  omega
 ·
  omega
theorem inv_one {p x : Int} (hp : IsP p) (hx : 0 < x ∧ x < p) : cg p (x * inv p x) 1 := inv_cg hp (by rw [Int.emod_eq_of_lt (by omega) hx.2]; omega)
theorem dv1_get (p q : Int) (g : List Int) (a t : Nat) : ∀ d j r, a + j + d ≤ r.length → co (dv1 p q g a r j d) t = if a + j ≤ t ∧ t < a + j + d then (co r t - q * co g (t - a)) % p else co r t
 | 0, j, r, h => by rw [if_neg (by omega)]; rfl
 | d + 1, j, r, h => by
  rw [dv1, dv1_get p q g a t d (j + 1) _ (by simpa using by omega), co_set _ _ _ _ (by omega)]
  by_cases e : t = a + j
  ·
   subst e
   rw [if_neg (by omega), if_pos rfl, if_pos (by omega), show a + j - a = j by omega]
   rfl
  ·
   rw [if_neg e]
   by_cases h2 : a + (j + 1) ≤ t ∧ t < a + (j + 1) + d
   ·
    rw [if_pos h2, if_pos (by omega)]
   ·
    rw [if_neg h2, if_neg (by omega)]
def sh (g : List Int) (m t : Nat) : Int := if m ≤ t then co g (t - m) else 0
theorem dv1_cg {p : Int} (c : Int) (g r : List Int) (m t : Nat) (h : m + g.length ≤ r.length) : cg p (co r t) (co (dv1 p c g m r 0 g.length) t + c * sh g m t) := by
 rw [dv1_get p c g m t g.length 0 r (by omega)]
 unfold sh
 by_cases h1 : m + 0 ≤ t ∧ t < m + 0 + g.length
 ·
  rw [if_pos h1, if_pos (by omega)]
  have := (cg.mod p (co r t - c * co g (t - m))).symm.add (cg.refl (c * co g (t - m)))
  rwa [show co r t - c * co g (t - m) + c * co g (t - m) = co r t by omega] at this
 ·
  rw [if_neg h1]
  by_cases h2 : m ≤ t
  ·
   rw [if_pos h2, co_ge (show g.length ≤ t - m by omega), Int.mul_zero, Int.add_zero]; exact cg.refl _
  ·
   rw [if_neg h2, Int.mul_zero, Int.add_zero]; exact cg.refl _
theorem dvR_cg (p iv : Int) (g : List Int) (t : Nat) : ∀ m (q r : List Int), (m = 0 ∨ m + g.length ≤ r.length + 1) → m ≤ q.length →
  cg p (co r t) (co (dvR p iv g m q r).2 t + su (fun i => co (dvR p iv g m q r).1 i * sh g i t) m)
 | 0, q, r, _, _ => by simp only [dvR, su, Int.add_zero]; exact cg.refl _
 | m + 1, q, r, h, hq => by
  rw [dvR]
  have hq2 := dvR_top p iv g m m (q.set m (r.getD (m + g.length - 1) 0 * iv % p)) (dv1 p (r.getD (m + g.length - 1) 0 * iv % p) g m r 0 g.length) (Nat.le_refl m)
  have hc : co (q.set m (r.getD (m + g.length - 1) 0 * iv % p)) m = r.getD (m + g.length - 1) 0 * iv % p := by rw [co_set _ _ _ _ (by omega), if_pos rfl]
  have ih := dvR_cg p iv g t m (q.set m (r.getD (m + g.length - 1) 0 * iv % p)) (dv1 p (r.getD (m + g.length - 1) 0 * iv % p) g m r 0 g.length) (by rw [dv1_len]; omega) (by simp; omega)
  have h1 := dv1_cg (p := p) (r.getD (m + g.length - 1) 0 * iv % p) g r m t (by omega)
  refine h1.trans ?_
  rw [su]
  have e : co (dvR p iv g m (q.set m (r.getD (m + g.length - 1) 0 * iv % p)) (dv1 p (r.getD (m + g.length - 1) 0 * iv % p) g m r 0 g.length)).1 m = r.getD (m + g.length - 1) 0 * iv % p := hq2.trans hc
  rw [e]
  have := ih.add (cg.refl (r.getD (m + g.length - 1) 0 * iv % p * sh g m t))
  rwa [Int.add_assoc] at this
theorem dvR_high {p iv : Int} (g : List Int) (h0 : 0 < g.length) (hp : 0 < p) (hiv : cg p (co g (g.length - 1) * iv) 1) : ∀ m (q r : List Int), (m = 0 ∨ m + g.length ≤ r.length + 1) → InR p r → (∀ t, m + g.length - 1 ≤ t → co r t = 0) →
  ∀ t, g.length - 1 ≤ t → co (dvR p iv g m q r).2 t = 0
 | 0, q, r, _, _, hz, t, ht => hz t (by omega)
 | m + 1, q, r, h, hr, hz, t, ht => by
  rw [dvR]
  refine dvR_high g h0 hp hiv m _ _ (by rw [dv1_len]; omega) (dv1_inR hp _ g m _ _ _ hr) (fun t ht => ?_) t ht
  rw [dv1_get _ _ _ _ _ _ _ _ (by omega)]
  by_cases e : t = m + g.length - 1
  ·
   subst e
   rw [if_pos (by omega), show m + g.length - 1 - m = g.length - 1 by omega]
   have h1 : cg p (co r (m + g.length - 1) * iv % p * co g (g.length - 1)) (co r (m + g.length - 1)) := by
    refine ((cg.mod _ _).mul (cg.refl _)).trans ?_
    have := (cg.refl (co r (m + g.length - 1))).mul hiv
    rw [Int.mul_one] at this
    refine (cg.of_eq ?_).trans this
    rw [Int.mul_assoc, Int.mul_comm iv]
   have h2 := (cg.refl (co r (m + g.length - 1))).sub h1
   rw [Int.sub_self] at h2
   exact cg.zero.1 h2
  ·
   rw [if_neg (by omega)]
   exact hz t (by omega)
theorem divL_facts {p : Int} {f g : List Int} (hp : IsP p) (rf : InR p f) (rg : InR p g) (zg : Nz g) (h0 : 0 < g.length) :
  (∀ t, cg p (co f t) (cv (co (divL p f g).1) (co g) t + co (divL p f g).2 t)) ∧ (Nz f → (divL p f g).2.length < g.length) ∧ (Nz f → Nz (divL p f g).2) ∧ InR p (divL p f g).1 ∧ InR p (divL p f g).2 ∧ (divL p f g).1.length = f.length + 1 - g.length := by
 have hiv := inv_one hp (zg.top rg hp.p0 h0)
 have hib := inv_bd hp.p0 (co g (g.length - 1))
 unfold divL
 by_cases hlt : f.length < g.length
 ·
  rw [if_pos hlt]
  refine ⟨fun t => ?_, fun _ => hlt, fun h => h, InR.nil, rf, by simp; omega⟩
  have : cv (co []) (co g) t = 0 := su_zero fun i _ => by rw [co_ge (by simp), Int.zero_mul]
  simp only [this, Int.zero_add]
  exact cg.refl _
 ·
  rw [if_neg hlt]
  have hl := dvR_len p (inv p (g.getD (g.length - 1) 0)) g (f.length - g.length + 1) (List.replicate (f.length - g.length + 1) 0) f
  have hr := dvR_inR hp.p0 (inv p (g.getD (g.length - 1) 0)) g (f.length - g.length + 1) (List.replicate (f.length - g.length + 1) 0) f (InR.zeros hp.p0 _) rf
  have hhigh := dvR_high (p := p) (iv := inv p (g.getD (g.length - 1) 0)) g h0 hp.p0 hiv (f.length - g.length + 1) (List.replicate (f.length - g.length + 1) 0) f (by omega) rf (fun t ht => co_ge (by omega))
  refine ⟨fun t => ?_, fun _ => ?_, fun _ => Nz.trim _, hr.1, hr.2.trim, by rw [hl.1, List.length_replicate]; omega⟩
  ·
   have h := dvR_cg p (inv p (g.getD (g.length - 1) 0)) g t (f.length - g.length + 1) (List.replicate (f.length - g.length + 1) 0) f (by omega) (by simp)
   simp only
   rw [co_trim, Int.add_comm]
   refine h.trans ((cg.refl _).add (cg.of_eq ?_))
   generalize hq : (dvR p (inv p (g.getD (g.length - 1) 0)) g (f.length - g.length + 1) (List.replicate (f.length - g.length + 1) 0) f).1 = q at hl ⊢
   have hql : q.length = f.length - g.length + 1 := by rw [hl.1, List.length_replicate]
   have e1 : su (fun i => co q i * sh g i t) (f.length - g.length + 1) = su (fun i => co q i * sh g i t) (max (f.length - g.length + 1) (t + 1)) :=
    (su_ext (Nat.le_max_left _ _) fun i hi _ => by rw [co_ge (by omega), Int.zero_mul]).symm
   have e2 : su (fun i => co q i * sh g i t) (max (f.length - g.length + 1) (t + 1)) = su (fun i => co q i * sh g i t) (t + 1) :=
    su_ext (Nat.le_max_right _ _) fun i hi _ => by unfold sh; rw [if_neg (by omega), Int.mul_zero]
   rw [e1, e2]
   exact su_congr fun i hi => by unfold sh; rw [if_pos (by omega)]
  ·
   have h1 : (trimL (dvR p (inv p (g.getD (g.length - 1) 0)) g (f.length - g.length + 1) (List.replicate (f.length - g.length + 1) 0) f).2).length ≤ g.length - 1 :=
    (Nz.trim _).len_le fun i hi => by rw [co_trim]; exact hhigh i hi
   simp only
   omega
def gcdF (p : Int) : Nat → List Int → List Int → List Int
 | 0, f, _ => f
 | n + 1, f, g => if g.length = 0 then (if f.length = 0 then [] else monicL p f) else gcdF p n g (divL p f g).2
def gcdL (p : Int) (f g : List Int) : List Int := gcdF p (g.length + 1) f g
theorem monicL_len (p : Int) (f : List Int) : (monicL p f).length ≤ f.length := by have := addL_len p [] f (inv p (rd f ((f.length : Int) - 1))); simpa [monicL] using this
theorem gcdF_facts {p : Int} (hp : IsP p) : ∀ (n : Nat) (f g : List Int), Po p f → Po p g → g.length < n →
  Ev (fun k => spec_l01Gcd.l0 k p f g) (gcdF p n f g) ∧ Ev (fun k => impl_field_gcd.l0 k p f g) (gcdF p n f g) ∧ (gcdF p n f g).length ≤ 25
 | 0, f, g, _, _, h => by omega
 | n + 1, f, g, pf, pg, h => by
  have lf := pf.len
  have lg := pg.len
  rw [gcdF]
  by_cases h0 : g.length = 0
  ·
   rw [if_pos h0]
   refine ⟨?_, ?_, ?_⟩
   ·
    refine Ev.succ ?_
    simp (disch := omega) only [spec_l01Gcd.l0, if_neg]
    exact Ev.bind (spec_monic hp.p2 hp.pm (by omega) pf.inR) (Ev.now _)
   ·
    refine Ev.succ ?_
    by_cases hf : f.length = 0
    ·
     simp (disch := omega) only [impl_field_gcd.l0, if_neg, if_pos]
     exact Ev.now _
    ·
     simp (disch := omega) only [impl_field_gcd.l0, if_neg]
     exact Ev.bind (impl_monic hp.p2 hp.pm (by omega) pf.inR hf) (Ev.now _)
   ·
    split
    ·
     simp
    ·
     have := monicL_len p f; omega
  ·
   rw [if_neg h0]
   obtain ⟨d1, d2, d3, d4, d5, d6⟩ := divL_facts hp pf.inR pg.inR pg.nz (by omega)
   have hl := d2 pf.nz
   obtain ⟨i1, i2, i3⟩ := gcdF_facts hp n g (divL p f g).2 pg (Po.of (by omega) d5 (d3 pf.nz)) (by omega)
   refine ⟨?_, ?_, i3⟩
   ·
    refine Ev.succ ?_
    simp (disch := omega) only [spec_l01Gcd.l0, if_pos]
    exact Ev.bind (spec_divide hp.p2 hp.pm (by omega) (by omega) (by omega) pf.inR pg.inR) i1
   ·
    refine Ev.succ ?_
    simp (disch := omega) only [impl_field_gcd.l0, if_pos]
    exact Ev.bind (impl_divide hp.p2 hp.pm (by omega) (by omega) (by omega) pf.inR pg.inR) i2
theorem spec_gcd {p : Int} {f g : List Int} (hp : IsP p) (pf : Po p f) (pg : Po p g) : Ev (fun k => spec_l01Gcd.f k p f g) (gcdL p f g) := (gcdF_facts hp _ f g pf pg (Nat.lt_succ_self _)).1
theorem impl_gcd {p : Int} {f g : List Int} (hp : IsP p) (pf : Po p f) (pg : Po p g) : Ev (fun k => impl_field_gcd.f k p f g) (gcdL p f g) := (gcdF_facts hp _ f g pf pg (Nat.lt_succ_self _)).2.1
end Go.Proofs.Ytlmolloallhclaa.H
set_option linter.unusedVariables false
set_option linter.unusedSimpArgs false
namespace Go.Proofs.Ytlmolloallhclaa.H
open Go.RowKit Go.Proofs.YtlmolloallhclaaW.PrintWords Go.Proofs.YtlmolloallhclaaW.PrintLast Go.Proofs.YtlmolloallhclaaW.PrintMore Go.Proofs.Ytlmolloallhclaa.Num
def ro (rows : List (List Int)) (i : Nat) : List Int := rows.getD i []
theorem ro_set (rows : List (List Int)) (b i : Nat) (x : List Int) (h : b < rows.length) : ro (rows.set b x) i = if i = b then x else ro rows i := by
 unfold ro
 rw [List.getD_eq_getElem?_getD, List.getD_eq_getElem?_getD]
 by_cases e : i = b
 ·
  subst e; rw [if_pos rfl, List.getElem?_set_self h]; rfl
 ·
  rw [if_neg e, List.getElem?_set_ne (fun h => e h.symm)]
theorem co_app1 (l : List Int) (x : Int) (j : Nat) (h : j < l.length + 1) : co (l ++ [x]) j = if j < l.length then co l j else x := by
 unfold co
 rw [List.getD_eq_getElem?_getD, List.getD_eq_getElem?_getD]
 by_cases e : j < l.length
 ·
  rw [if_pos e, List.getElem?_append_left e]
 ·
  rw [if_neg e, List.getElem?_append_right (by omega), show j - l.length = 0 by omega]; rfl
structure Sq (p : Int) (n : Nat) (rows : List (List Int)) : Prop where
 len : rows.length = n
 row : ∀ i, i < n → (ro rows i).length = n
 inR : ∀ i, i < n → InR p (ro rows i)
theorem Sq.set {p : Int} {n : Nat} {rows : List (List Int)} (h : Sq p n rows) {b : Nat} (hb : b < n) {x : List Int} (hx : x.length = n) (hr : InR p x) : Sq p n (rows.set b x) := by
 refine ⟨by rw [List.length_set, h.len], fun i hi => ?_, fun i hi => ?_⟩
 ·
  rw [ro_set _ _ _ _ (by rw [h.len]; exact hb)]
  split
  ·
   exact hx
  ·
   exact h.row i hi
 ·
  rw [ro_set _ _ _ _ (by rw [h.len]; exact hb)]
  split
  ·
   exact hr
  ·
   exact h.inR i hi
def sb (rows : List (List Int)) (c : Nat) : Nat → Nat → Int := fun i j => co (ro rows (c + i)) (c + j)
theorem sb_zero {p : Int} {n c : Nat} {rows : List (List Int)} (hc : c < n) (h : ∀ i, c ≤ i → i < n → co (ro rows i) c = 0) : cg p (zdt (n - c) (sb rows c)) 0 := by
 obtain ⟨m, hm⟩ : ∃ m, n - c = m + 1 := ⟨n - c - 1, by omega⟩
 rw [hm]
 refine zdt_zcol fun i hi => ?_
 show cg p (co (ro rows (c + i)) (c + 0)) 0
 rw [Nat.add_zero, h (c + i) (by omega) (by omega)]; exact cg.refl 0
theorem sb_swap {n c b : Nat} {rows : List (List Int)} (hl : rows.length = n) (hc : c < b) (hb : b < n) : zdt (n - c) (sb ((rows.set b (ro rows c)).set c (ro rows b)) c) = - zdt (n - c) (sb rows c) := by
 rw [← zdt_swap (r := 0) (s := b - c) (by omega) (by omega) (by omega)]
 refine zdt_congr fun i j hi _ => ?_
 unfold sb Rin.xc Rin.up
 rw [ro_set _ _ _ _ (by rw [List.length_set, hl]; omega), ro_set _ _ _ _ (by rw [hl]; exact hb)]
 by_cases e : i = b - c
 ·
  rw [if_pos e, if_neg (by omega), if_pos (by omega)]
  show _ = co (ro rows (c + 0)) (c + j)
  rw [Nat.add_zero]
 ·
  rw [if_neg e]
  by_cases e2 : i = 0
  ·
   rw [if_pos e2, if_pos (by omega)]
   show _ = co (ro rows (c + (b - c))) (c + j)
   rw [show c + (b - c) = b by omega]
  ·
   rw [if_neg e2, if_neg (by omega), if_neg (by omega)]
theorem sb_elim {p : Int} {n c : Nat} {R R2 : List (List Int)} (hc : c < n) {iv : Int} (hiv : cg p (co (ro R c) c * iv) 1) (f : Nat → Int) (hf : ∀ i, c < i → i < n → cg p (f i) (co (ro R i) c * iv))
  (h : ∀ i, c < i → i < n → ∀ j, j < n → cg p (co (ro R2 i) j) (co (ro R i) j - f i * co (ro R c) j)) : cg p (zdt (n - c) (sb R c)) (co (ro R c) c * zdt (n - (c + 1)) (sb R2 (c + 1))) := by
 obtain ⟨m, hm⟩ : ∃ m, n - c = m + 1 := ⟨n - c - 1, by omega⟩
 rw [hm, show n - (c + 1) = m by omega]
 have h1 := zdt_elim (p := p) (n := m) (sb R c) (fun i => - f (c + i)) fun i h1 h2 => by
  show cg p (co (ro R (c + i)) (c + 0) + - f (c + i) * co (ro R (c + 0)) (c + 0)) 0
  rw [Nat.add_zero]
  have a := ((hf (c + i) (by omega) (by omega)).neg.mul (cg.refl (co (ro R c) c)))
  have b := (cg.refl (co (ro R (c + i)) c)).add a
  refine b.trans ?_
  have e : co (ro R (c + i)) c + -(co (ro R (c + i)) c * iv) * co (ro R c) c = co (ro R (c + i)) c - co (ro R (c + i)) c * (co (ro R c) c * iv) := by grind
  rw [e]
  have := (cg.refl (co (ro R (c + i)) c)).sub ((cg.refl (co (ro R (c + i)) c)).mul hiv)
  rwa [Int.mul_one, Int.sub_self] at this
 refine h1.trans ?_
 show cg p (co (ro R (c + 0)) (c + 0) * _) _
 rw [Nat.add_zero]
 refine (cg.refl _).mul (zdt_cg fun i j hi hj => ?_)
 show cg p (co (ro R (c + (i + 1))) (c + (j + 1)) + - f (c + (i + 1)) * co (ro R (c + 0)) (c + (j + 1))) (co (ro R2 (c + 1 + i)) (c + 1 + j))
 rw [Nat.add_zero, show c + (i + 1) = c + 1 + i by omega, show c + (j + 1) = c + 1 + j by omega]
 have := (h (c + 1 + i) (by omega) (by omega) (c + 1 + j) (by omega)).symm
 refine cg.trans (cg.of_eq ?_) this
 grind
end Go.Proofs.Ytlmolloallhclaa.H
