/- Joined texts of a claim: the printed functions and what is proved of them. -/
import Derived.Test.YtnhbpcfcgpcdfaaHx0
import Derived.Test.YtnhbpcfcgpcdfaaMa6
import Derived.Test.YtnhbpcfcgpcdfaaMa7
import Derived.Test.YtnhbpcfcgpcdfaaMa8
import Derived.Test.YtnhbpcfcgpcdfaaMa5
-- written by wip/drive.py (the session's own program) over the translation; Lean checks it
namespace Go.Proofs.Ytnhbpcfcgpcdfaa.H
open Go.RowKit Go.Proofs.YtnhbpcfcgpcdfaaW.PrintWords Go.Proofs.YtnhbpcfcgpcdfaaW.PrintLast Go.Proofs.YtnhbpcfcgpcdfaaW.PrintMore
attribute [local go_sem] max2_int min2_int max_two min_two max_three min_three max_four min_four   -- for this text's walks alone
set_option linter.unusedVariables false
set_option linter.unusedSimpArgs false

/-! ### spec_PadeOf: function 26 -/
mutual
def spec_PadeOf.j0 : Nat → Int → List Int → Int → Int → Bool → Option (List Int × List Int × Int)
  | 0, _, _, _, _, _ => none
  | k + 1, x0, x1, x2, x3, x52 => if x52 = true then (some (([] : List Int), ([] : List Int), 2)) else (if 0 ≤ (wrap64 ((wrap64 (x2 + x3)) + 1)) then (if (wrap64 ((wrap64 (x2 + x3)) + 1) : Int).toNat ≤ 35184372088832 then ((some (List.replicate (wrap64 ((wrap64 (x2 + x3)) + 1) : Int).toNat 0 : List Int)).bind fun y597 => (if y597.length < 17592186044416 then ((spec_l01Trim.f k x1).bind fun t603 => (spec_PadeOf.l0 k x0 x2 (y597 ++ [1]) t603 (([] : List Int)) (([1] : List Int)))) else (none))) else (none)) else (none))
def spec_PadeOf.l0 : Nat → Int → Int → List Int → List Int → List Int → List Int → Option (List Int × List Int × Int)
  | 0, _, _, _, _, _, _ => none
  | k + 1, x0, x2, x11, x12, x13, x14 => if (wrap64 ((x12.length : Int) - 1)) > x2 then ((spec_l01Divide.f k x0 x11 x12).bind fun bt612 => ((spec_l01Times.f k x0 bt612.1 x14).bind fun t618 => ((spec_l01Add.f k x0 x13 t618 (wrap64 (x0 - 1))).bind fun t621 => (spec_PadeOf.l0 k x0 x2 x12 bt612.2 x14 t621)))) else (if 0 < (x14.length : Int) then (if (rd x14 0) = 0 then (some (([] : List Int), ([] : List Int), 4)) else ((spec_l01Inverse.f k x0 (rd x14 0)).bind fun t626 => ((spec_l01Add.f k x0 (([] : List Int)) x12 t626).bind fun t630 => ((spec_l01Add.f k x0 (([] : List Int)) x14 t626).bind fun t636 => (some (t630, t636, 0)))))) else (none))
end
def spec_PadeOf.f (k : Nat) (a0 : Int) (l1 : List Int) (a2 : Int) (a3 : Int) : Option (List Int × List Int × Int) := (spec_l01Prime.f k a0).bind fun t593 => (if t593 = true then ((spec_l01In.f a2 0 24).bind fun t594 => (if t594 = true then ((spec_l01In.f a3 0 24).bind fun t595 => (if t595 = true then (if (wrap64 (a2 + a3)) ≥ 24 then (spec_PadeOf.j0 k a0 l1 a2 a3 true) else (if (l1.length : Int) = (wrap64 ((wrap64 (a2 + a3)) + 1)) then ((spec_l01Points.f k a0 l1 false).bind fun t596 => (spec_PadeOf.j0 k a0 l1 a2 a3 (!t596))) else (spec_PadeOf.j0 k a0 l1 a2 a3 true))) else (spec_PadeOf.j0 k a0 l1 a2 a3 true))) else (spec_PadeOf.j0 k a0 l1 a2 a3 true))) else (spec_PadeOf.j0 k a0 l1 a2 a3 true))
theorem spec_PadeOf.mono_l : ∀ k, (∀ y0 y1 y2 y3 y4, LeO (spec_PadeOf.j0 k y0 y1 y2 y3 y4) (spec_PadeOf.j0 (k + 1) y0 y1 y2 y3 y4)) ∧ (∀ y0 y1 y2 y3 y4 y5, LeO (spec_PadeOf.l0 k y0 y1 y2 y3 y4 y5) (spec_PadeOf.l0 (k + 1) y0 y1 y2 y3 y4 y5))
  | 0 => ⟨fun _ _ _ _ _ r h => by simp [spec_PadeOf.j0] at h, fun _ _ _ _ _ _ r h => by simp [spec_PadeOf.l0] at h⟩
  | k + 1 => by
    obtain ⟨ih0, ih1⟩ := spec_PadeOf.mono_l k
    refine ⟨?_, ?_⟩
    · intro y0 y1 y2 y3 y4
      unfold spec_PadeOf.j0
      repeat' first
      | (with_reducible exact ih0 _ _ _ _ _)
      | (with_reducible exact ih1 _ _ _ _ _ _)
      | (with_reducible exact spec_l01Add.mono _ _ _ _ _)
      | (with_reducible exact spec_l01Divide.mono _ _ _ _)
      | (with_reducible exact spec_l01Inverse.mono _ _ _)
      | (with_reducible exact spec_l01Points.mono _ _ _ _)
      | (with_reducible exact spec_l01Prime.mono _ _)
      | (with_reducible exact spec_l01Times.mono _ _ _ _)
      | (with_reducible exact spec_l01Trim.mono _ _)
      | (with_reducible exact LeO.refl _)
      | (with_reducible exact LeO.none _)
      | (with_reducible refine LeO.ite ?_ ?_)
      | (with_reducible refine LeO.bind ?_ (fun _ => ?_))
      | exact ih0 _ _ _ _ _
      | exact ih1 _ _ _ _ _ _
      | exact spec_l01Add.mono _ _ _ _ _
      | exact spec_l01Divide.mono _ _ _ _
      | exact spec_l01Inverse.mono _ _ _
      | exact spec_l01Points.mono _ _ _ _
      | exact spec_l01Prime.mono _ _
      | exact spec_l01Times.mono _ _ _ _
      | exact spec_l01Trim.mono _ _
      | exact LeO.none _
      | refine LeO.ite ?_ ?_
      | refine LeO.bind ?_ (fun _ => ?_)
    · intro y0 y1 y2 y3 y4 y5
      unfold spec_PadeOf.l0
      repeat' first
      | (with_reducible exact ih0 _ _ _ _ _)
      | (with_reducible exact ih1 _ _ _ _ _ _)
      | (with_reducible exact spec_l01Add.mono _ _ _ _ _)
      | (with_reducible exact spec_l01Divide.mono _ _ _ _)
      | (with_reducible exact spec_l01Inverse.mono _ _ _)
      | (with_reducible exact spec_l01Points.mono _ _ _ _)
      | (with_reducible exact spec_l01Prime.mono _ _)
      | (with_reducible exact spec_l01Times.mono _ _ _ _)
      | (with_reducible exact spec_l01Trim.mono _ _)
      | (with_reducible exact LeO.refl _)
      | (with_reducible exact LeO.none _)
      | (with_reducible refine LeO.ite ?_ ?_)
      | (with_reducible refine LeO.bind ?_ (fun _ => ?_))
      | exact ih0 _ _ _ _ _
      | exact ih1 _ _ _ _ _ _
      | exact spec_l01Add.mono _ _ _ _ _
      | exact spec_l01Divide.mono _ _ _ _
      | exact spec_l01Inverse.mono _ _ _
      | exact spec_l01Points.mono _ _ _ _
      | exact spec_l01Prime.mono _ _
      | exact spec_l01Times.mono _ _ _ _
      | exact spec_l01Trim.mono _ _
      | exact LeO.none _
      | refine LeO.ite ?_ ?_
      | refine LeO.bind ?_ (fun _ => ?_)
theorem spec_PadeOf.mono : ∀ a0 a1 a2 a3 k, LeO (spec_PadeOf.f k a0 a1 a2 a3) (spec_PadeOf.f (k + 1) a0 a1 a2 a3) := by
  intro a0 a1 a2 a3 k
  obtain ⟨ih0, ih1⟩ := spec_PadeOf.mono_l k
  unfold spec_PadeOf.f
  repeat' first
      | (with_reducible exact ih0 _ _ _ _ _)
      | (with_reducible exact ih1 _ _ _ _ _ _)
      | (with_reducible exact spec_l01Add.mono _ _ _ _ _)
      | (with_reducible exact spec_l01Divide.mono _ _ _ _)
      | (with_reducible exact spec_l01Inverse.mono _ _ _)
      | (with_reducible exact spec_l01Points.mono _ _ _ _)
      | (with_reducible exact spec_l01Prime.mono _ _)
      | (with_reducible exact spec_l01Times.mono _ _ _ _)
      | (with_reducible exact spec_l01Trim.mono _ _)
      | (with_reducible exact LeO.refl _)
      | (with_reducible exact LeO.none _)
      | (with_reducible refine LeO.ite ?_ ?_)
      | (with_reducible refine LeO.bind ?_ (fun _ => ?_))
      | exact ih0 _ _ _ _ _
      | exact ih1 _ _ _ _ _ _
      | exact spec_l01Add.mono _ _ _ _ _
      | exact spec_l01Divide.mono _ _ _ _
      | exact spec_l01Inverse.mono _ _ _
      | exact spec_l01Points.mono _ _ _ _
      | exact spec_l01Prime.mono _ _
      | exact spec_l01Times.mono _ _ _ _
      | exact spec_l01Trim.mono _ _
      | exact LeO.none _
      | refine LeO.ite ?_ ?_
      | refine LeO.bind ?_ (fun _ => ?_)
set_option maxHeartbeats 8000000 in
set_option maxRecDepth 100000 in
theorem spec_PadeOf.calls (k : Nat) (a0 : Int) (A1 : Option Addr) (c1 : Nat) (l1 : List Int) (a2 : Int) (a3 : Int) (r1 : List Int) (r2 : List Int) (r3 : Int) (w : World) (hr1 : Kd.C (Kd.int .i64) w A1 l1.length l1) (hc1 : l1.length ≤ c1) (h : spec_PadeOf.f k a0 l1 a2 a3 = some (r1, r2, r3)) :
    Calls Try.prog 26 #[.int .i64 a0, .slice A1 l1.length c1, .int .i64 a2, .int .i64 a3] w fun e w' => ∃ v0_ v1_ : Value, e = .returned (.tuple #[v0_, v1_, .int .i64 r3]) ∧ Kd.R (Kd.int .i64) 2 w' w.heap.size (fun k_ => some k_ ≠ (v1_ : Value).ownBlock) v0_ r1 ∧ Kd.R (Kd.int .i64) 2 w' w.heap.size (fun k_ => some k_ ≠ (v0_ : Value).ownBlock) v1_ r2 ∧ Below w.heap.size w w' := by
  have HR1 := Aside0.mk hr1
  have HC1 := Aside0.mk hc1
  clear hr1 hc1
  have HB := Aside0.mk (Below.refl w.heap.size w)
  have H : ((spec_l01Prime.f k a0).bind fun t593 => (if t593 = true then ((spec_l01In.f a2 0 24).bind fun t594 => (if t594 = true then ((spec_l01In.f a3 0 24).bind fun t595 => (if t595 = true then (if (wrap64 (a2 + a3)) ≥ 24 then (spec_PadeOf.j0 k a0 l1 a2 a3 true) else (if (l1.length : Int) = (wrap64 ((wrap64 (a2 + a3)) + 1)) then ((spec_l01Points.f k a0 l1 false).bind fun t596 => (spec_PadeOf.j0 k a0 l1 a2 a3 (!t596))) else (spec_PadeOf.j0 k a0 l1 a2 a3 true))) else (spec_PadeOf.j0 k a0 l1 a2 a3 true))) else (spec_PadeOf.j0 k a0 l1 a2 a3 true))) else (spec_PadeOf.j0 k a0 l1 a2 a3 true))) = some (r1, r2, r3) := h
  clear h
  have HC5 := Aside0.mk H
  clear H
  go_enter Try.func26, Try.ntmps26
  go_upto_region 1 with (fail)
  go_cut [52] (fun v52 wc => ∃ (kq : Nat) (x52_4 : Bool), v52 = .bool x52_4 ∧ Aside0 (spec_PadeOf.j0 kq a0 l1 a2 a3 x52_4 = some (r1, r2, r3)) ∧ Aside0 (kq ≤ k) ∧ Aside0 (Below w.heap.size w wc))
  case first =>
    have H := HC5.out
    clear HC5
    replace H := Option.bind_eq_some_iff.mp H
    obtain ⟨t593, A60, H⟩ := H
    have A6 := Aside0.mk A60
    clear A60
    by_cases c7 : t593 = true
    · subst c7
      have H1 : ((spec_l01In.f a2 0 24).bind fun t594 => (if t594 = true then ((spec_l01In.f a3 0 24).bind fun t595 => (if t595 = true then (if (wrap64 (a2 + a3)) ≥ 24 then (spec_PadeOf.j0 k a0 l1 a2 a3 true) else (if (l1.length : Int) = (wrap64 ((wrap64 (a2 + a3)) + 1)) then ((spec_l01Points.f k a0 l1 false).bind fun t596 => (spec_PadeOf.j0 k a0 l1 a2 a3 (!t596))) else (spec_PadeOf.j0 k a0 l1 a2 a3 true))) else (spec_PadeOf.j0 k a0 l1 a2 a3 true))) else (spec_PadeOf.j0 k a0 l1 a2 a3 true))) = some (r1, r2, r3) := by rw [if_pos rfl] at H; exact H
      clear H
      have H := H1
      clear H1
      replace H := Option.bind_eq_some_iff.mp H
      obtain ⟨t594, A80, H⟩ := H
      have A8 := Aside0.mk A80
      clear A80
      by_cases c9 : t594 = true
      · subst c9
        have H1 : ((spec_l01In.f a3 0 24).bind fun t595 => (if t595 = true then (if (wrap64 (a2 + a3)) ≥ 24 then (spec_PadeOf.j0 k a0 l1 a2 a3 true) else (if (l1.length : Int) = (wrap64 ((wrap64 (a2 + a3)) + 1)) then ((spec_l01Points.f k a0 l1 false).bind fun t596 => (spec_PadeOf.j0 k a0 l1 a2 a3 (!t596))) else (spec_PadeOf.j0 k a0 l1 a2 a3 true))) else (spec_PadeOf.j0 k a0 l1 a2 a3 true))) = some (r1, r2, r3) := by rw [if_pos rfl] at H; exact H
        clear H
        have H := H1
        clear H1
        replace H := Option.bind_eq_some_iff.mp H
        obtain ⟨t595, A100, H⟩ := H
        have A10 := Aside0.mk A100
        clear A100
        by_cases c11 : t595 = true
        · subst c11
          have H1 : (if (wrap64 (a2 + a3)) ≥ 24 then (spec_PadeOf.j0 k a0 l1 a2 a3 true) else (if (l1.length : Int) = (wrap64 ((wrap64 (a2 + a3)) + 1)) then ((spec_l01Points.f k a0 l1 false).bind fun t596 => (spec_PadeOf.j0 k a0 l1 a2 a3 (!t596))) else (spec_PadeOf.j0 k a0 l1 a2 a3 true))) = some (r1, r2, r3) := by rw [if_pos rfl] at H; exact H
          clear H
          have H := H1
          clear H1
          by_cases c12 : (wrap64 (a2 + a3)) ≥ 24
          · rw [if_pos c12] at H
            have c12b0 : decide (24 ≤ (wrap64 (a2 + a3))) = true := decide_eq_true c12
            clear c12
            (first | rw [c12b0] | (simp only [i64_w, i32_w]; rw [c12b0]) | skip)
            have H' := Aside0.mk H
            clear H
            go_wp2_with (first | ((with_reducible refine gate_callee (f := 48) rfl ?_); refine goesM_ (some 20) rfl rfl Try.func48 #[.int .i64 a0] rfl ?_; (with_reducible refine (spec_l01Prime.calls k a0 true _ A6.out).mono ?_); rintro e w' ⟨rfl, ⟨nd, rfl⟩⟩; refine ⟨_, rfl, ?_⟩) | (go_at_call 41; (with_reducible refine (spec_l01In.calls a2 0 24 true _ A8.out).mono ?_); rintro e w' ⟨rfl, ⟨nd, rfl⟩⟩) | (go_at_call 41; (with_reducible refine (spec_l01In.calls a3 0 24 true _ A10.out).mono ?_); rintro e w' ⟨rfl, ⟨nd, rfl⟩⟩))
            go_meet
            case rel => exact ⟨_, (true), ea_, H', ⟨by first | omega | exact Nat.le_refl _⟩, ⟨by repeat (first | (with_reducible first | exact HB.out | apply below_alloc | apply pw_below_drewN | apply below_drew1) | exact HB.out)⟩⟩
          · rw [if_neg c12] at H
            have c12b0 : decide (24 ≤ (wrap64 (a2 + a3))) = false := decide_eq_false c12
            clear c12
            (first | rw [c12b0] | (simp only [i64_w, i32_w]; rw [c12b0]) | skip)
            by_cases c13 : (l1.length : Int) = (wrap64 ((wrap64 (a2 + a3)) + 1))
            · rw [if_pos c13] at H
              have c13b0 : ((l1.length : Int) == (wrap64 ((wrap64 (a2 + a3)) + 1))) = true := beq_iff_eq.mpr c13
              have c13b1 : ((l1.length : Int) != (wrap64 ((wrap64 (a2 + a3)) + 1))) = false := bne_eq_false_iff_eq.mpr c13
              clear c13
              replace H := Option.bind_eq_some_iff.mp H
              obtain ⟨t596, A140, H⟩ := H
              have A14 := Aside0.mk A140
              clear A140
              have H' := Aside0.mk H
              clear H
              go_wp2_with (first | ((with_reducible refine gate_callee (f := 48) rfl ?_); refine goesM_ (some 20) rfl rfl Try.func48 #[.int .i64 a0] rfl ?_; (with_reducible refine (spec_l01Prime.calls k a0 true _ A6.out).mono ?_); rintro e w' ⟨rfl, ⟨nd, rfl⟩⟩; refine ⟨_, rfl, ?_⟩) | (go_at_call 41; (with_reducible refine (spec_l01In.calls a2 0 24 true _ A8.out).mono ?_); rintro e w' ⟨rfl, ⟨nd, rfl⟩⟩) | (go_at_call 41; (with_reducible refine (spec_l01In.calls a3 0 24 true _ A10.out).mono ?_); rintro e w' ⟨rfl, ⟨nd, rfl⟩⟩) | (go_at_call 49; (with_reducible refine (spec_l01Points.calls k a0 _ _ l1 false t596 _ ?side1 ?side2 A14.out).mono ?_); (case side1 => exact cs (Kd.C_below HR1.out HB.out)); (case side2 => exact HC1.out); rintro e w' ⟨rfl, ⟨nd, rfl⟩⟩))
              go_meet
              case rel => exact ⟨_, (!t596), ea_, H', ⟨by first | omega | exact Nat.le_refl _⟩, ⟨by repeat (first | (with_reducible first | exact HB.out | apply below_alloc | apply pw_below_drewN | apply below_drew1) | exact HB.out)⟩⟩
            · rw [if_neg c13] at H
              have c13b0 : ((l1.length : Int) == (wrap64 ((wrap64 (a2 + a3)) + 1))) = false := beq_eq_false_iff_ne.mpr c13
              have c13b1 : ((l1.length : Int) != (wrap64 ((wrap64 (a2 + a3)) + 1))) = true := bne_iff_ne.mpr c13
              have H' := Aside0.mk H
              clear H
              go_wp2_with (first | ((with_reducible refine gate_callee (f := 48) rfl ?_); refine goesM_ (some 20) rfl rfl Try.func48 #[.int .i64 a0] rfl ?_; (with_reducible refine (spec_l01Prime.calls k a0 true _ A6.out).mono ?_); rintro e w' ⟨rfl, ⟨nd, rfl⟩⟩; refine ⟨_, rfl, ?_⟩) | (go_at_call 41; (with_reducible refine (spec_l01In.calls a2 0 24 true _ A8.out).mono ?_); rintro e w' ⟨rfl, ⟨nd, rfl⟩⟩) | (go_at_call 41; (with_reducible refine (spec_l01In.calls a3 0 24 true _ A10.out).mono ?_); rintro e w' ⟨rfl, ⟨nd, rfl⟩⟩))
              go_meet
              case rel => exact ⟨_, (true), ea_, H', ⟨by first | omega | exact Nat.le_refl _⟩, ⟨by repeat (first | (with_reducible first | exact HB.out | apply below_alloc | apply pw_below_drewN | apply below_drew1) | exact HB.out)⟩⟩
        · replace c11 := Bool.eq_false_iff.mpr c11
          subst c11
          have H1 : (spec_PadeOf.j0 k a0 l1 a2 a3 true) = some (r1, r2, r3) := by rw [if_neg (show ¬ (false = true) by decide)] at H; exact H
          clear H
          have H := H1
          clear H1
          have H' := Aside0.mk H
          clear H
          go_wp2_with (first | ((with_reducible refine gate_callee (f := 48) rfl ?_); refine goesM_ (some 20) rfl rfl Try.func48 #[.int .i64 a0] rfl ?_; (with_reducible refine (spec_l01Prime.calls k a0 true _ A6.out).mono ?_); rintro e w' ⟨rfl, ⟨nd, rfl⟩⟩; refine ⟨_, rfl, ?_⟩) | (go_at_call 41; (with_reducible refine (spec_l01In.calls a2 0 24 true _ A8.out).mono ?_); rintro e w' ⟨rfl, ⟨nd, rfl⟩⟩) | (go_at_call 41; (with_reducible refine (spec_l01In.calls a3 0 24 false _ A10.out).mono ?_); rintro e w' ⟨rfl, ⟨nd, rfl⟩⟩))
          go_meet
          case rel => exact ⟨_, (true), ea_, H', ⟨by first | omega | exact Nat.le_refl _⟩, ⟨by repeat (first | (with_reducible first | exact HB.out | apply below_alloc | apply pw_below_drewN | apply below_drew1) | exact HB.out)⟩⟩
      · replace c9 := Bool.eq_false_iff.mpr c9
        subst c9
        have H1 : (spec_PadeOf.j0 k a0 l1 a2 a3 true) = some (r1, r2, r3) := by rw [if_neg (show ¬ (false = true) by decide)] at H; exact H
        clear H
        have H := H1
        clear H1
        have H' := Aside0.mk H
        clear H
        go_wp2_with (first | ((with_reducible refine gate_callee (f := 48) rfl ?_); refine goesM_ (some 20) rfl rfl Try.func48 #[.int .i64 a0] rfl ?_; (with_reducible refine (spec_l01Prime.calls k a0 true _ A6.out).mono ?_); rintro e w' ⟨rfl, ⟨nd, rfl⟩⟩; refine ⟨_, rfl, ?_⟩) | (go_at_call 41; (with_reducible refine (spec_l01In.calls a2 0 24 false _ A8.out).mono ?_); rintro e w' ⟨rfl, ⟨nd, rfl⟩⟩))
        go_meet
        case rel => exact ⟨_, (true), ea_, H', ⟨by first | omega | exact Nat.le_refl _⟩, ⟨by repeat (first | (with_reducible first | exact HB.out | apply below_alloc | apply pw_below_drewN | apply below_drew1) | exact HB.out)⟩⟩
    · replace c7 := Bool.eq_false_iff.mpr c7
      subst c7
      have H1 : (spec_PadeOf.j0 k a0 l1 a2 a3 true) = some (r1, r2, r3) := by rw [if_neg (show ¬ (false = true) by decide)] at H; exact H
      clear H
      have H := H1
      clear H1
      have H' := Aside0.mk H
      clear H
      go_wp2_with (first | ((with_reducible refine gate_callee (f := 48) rfl ?_); refine goesM_ (some 20) rfl rfl Try.func48 #[.int .i64 a0] rfl ?_; (with_reducible refine (spec_l01Prime.calls k a0 false _ A6.out).mono ?_); rintro e w' ⟨rfl, ⟨nd, rfl⟩⟩; refine ⟨_, rfl, ?_⟩))
      go_meet
      case rel => exact ⟨_, (true), ea_, H', ⟨by first | omega | exact Nat.le_refl _⟩, ⟨by repeat (first | (with_reducible first | exact HB.out | apply below_alloc | apply pw_below_drewN | apply below_drew1) | exact HB.out)⟩⟩
  case rest =>
    clear HC5
    try clear c1
    try clear c2
    try clear p2
    try clear c4
    try clear p6
    try clear c7
    try clear c9
    try clear c11
    try clear c12
    try clear c12b0
    try clear c13
    try clear c13b0
    try clear c13b1
    obtain ⟨kq, x52_4, rfl, HA, HJ4, HB⟩ := hcut
    cases kq with
    | zero => exact absurd HA.out (by simp [spec_PadeOf.j0])
    | succ kj4 =>
      have H := HA.out
      clear HA
      simp only [spec_PadeOf.j0] at H
      by_cases c15 : x52_4 = true
      · subst c15
        have H1 : (some (([] : List Int), ([] : List Int), 2)) = some (r1, r2, r3) := by rw [if_pos rfl] at H; exact H
        clear H
        have H := H1
        clear H1
        simp only [Option.some.injEq, Prod.mk.injEq] at H
        obtain ⟨rfl, rfl, rfl⟩ := H
        go_wp2
        go_ret3
        exact ⟨_, _, by first | rfl | (simp [errW_none, errW_some] <;> rfl) | (simp [*, errW_none, errW_some] <;> rfl), by first | exact Kd.R_nil _ _ _ _ _ | exact Kd.N_nil _ _ _ _ _ | exact Kd.V_nil _ _ _ _ _ | exact Kd.Q_nil _ _ _ _ _ | exact Kd.S_nil _ _ _ _ _, by first | exact Kd.R_nil _ _ _ _ _ | exact Kd.N_nil _ _ _ _ _ | exact Kd.V_nil _ _ _ _ _ | exact Kd.Q_nil _ _ _ _ _ | exact Kd.S_nil _ _ _ _ _, by repeat (first | (with_reducible first | exact HB.out | apply below_alloc | apply pw_below_drewN | apply below_drew1) | exact HB.out)⟩
      · replace c15 := Bool.eq_false_iff.mpr c15
        subst c15
        have H1 : (if 0 ≤ (wrap64 ((wrap64 (a2 + a3)) + 1)) then (if (wrap64 ((wrap64 (a2 + a3)) + 1) : Int).toNat ≤ 35184372088832 then ((some (List.replicate (wrap64 ((wrap64 (a2 + a3)) + 1) : Int).toNat 0 : List Int)).bind fun y597 => (if y597.length < 17592186044416 then ((spec_l01Trim.f kj4 l1).bind fun t603 => (spec_PadeOf.l0 kj4 a0 a2 (y597 ++ [1]) t603 (([] : List Int)) (([1] : List Int)))) else (none))) else (none)) else (none)) = some (r1, r2, r3) := by rw [if_neg (show ¬ (false = true) by decide)] at H; exact H
        clear H
        have H := H1
        clear H1
        obtain ⟨ji16, hji16⟩ : ∃ j_ : Int, (wrap64 ((wrap64 (a2 + a3)) + 1)) = j_ := ⟨_, rfl⟩
        replace H : (if 0 ≤ (ji16) then (if (ji16 : Int).toNat ≤ 35184372088832 then ((some (List.replicate (ji16 : Int).toNat 0 : List Int)).bind fun y597 => (if y597.length < 17592186044416 then ((spec_l01Trim.f kj4 l1).bind fun t603 => (spec_PadeOf.l0 kj4 a0 a2 (y597 ++ [1]) t603 (([] : List Int)) (([1] : List Int)))) else (none))) else (none)) else (none)) = some (r1, r2, r3) := by first | (rw [hji16] at H; exact H) | (simp only [hji16] at H ⊢; exact H)
        have hji16w : (IntKind.i64.wrap ((wrap64 (a2 + a3)) + 1)) = ji16 := (i64_w _).trans hji16
        by_cases c17 : 0 ≤ (ji16)
        · rw [if_pos c17] at H
          have c17b0 := eq_true c17
          have c17b1 : decide (0 ≤ (ji16)) = true := decide_eq_true c17
          clear c17
          by_cases c18 : (ji16 : Int).toNat ≤ 35184372088832
          · rw [if_pos c18] at H
            have c18b0 := eq_true c18
            have c18b1 : decide ((ji16 : Int).toNat ≤ 35184372088832) = true := decide_eq_true c18
            clear c18
            obtain ⟨y597, hy597⟩ : ∃ y_ : List Int, y_ = (List.replicate (ji16 : Int).toNat 0) := ⟨_, rfl⟩
            replace H : (if y597.length < 17592186044416 then ((spec_l01Trim.f kj4 l1).bind fun t603 => (spec_PadeOf.l0 kj4 a0 a2 (y597 ++ [1]) t603 (([] : List Int)) (([1] : List Int)))) else (none)) = some (r1, r2, r3) := by first | (rw [hy597]; with_reducible exact H) | (have H2_ := (Option.bind_some _ _).symm.trans H; rw [hy597]; with_reducible exact H2_) | (have H2_ := (Option.bind_some _ _).symm.trans H; with_reducible exact H2_) | with_reducible exact H | (rw [hy597]; exact H) | exact H
            have Ny597 := Aside0.mk hy597
            clear hy597
            by_cases c19 : y597.length < 17592186044416
            · rw [if_pos c19] at H
              have LMc19 := Aside0.mk c19
              clear c19
              obtain ⟨y600, hy600⟩ : ∃ y_ : List Int, y_ = (y597 ++ [1]) := ⟨_, rfl⟩
              replace H : ((spec_l01Trim.f kj4 l1).bind fun t603 => (spec_PadeOf.l0 kj4 a0 a2 y600 t603 (([] : List Int)) (([1] : List Int)))) = some (r1, r2, r3) := by first | (rw [hy600]; with_reducible exact H) | (have H2_ := (Option.bind_some _ _).symm.trans H; rw [hy600]; with_reducible exact H2_) | (have H2_ := (Option.bind_some _ _).symm.trans H; with_reducible exact H2_) | with_reducible exact H | (rw [hy600]; exact H) | exact H
              have Ny600 := Aside0.mk hy600
              clear hy600
              replace H := Option.bind_eq_some_iff.mp H
              obtain ⟨t603, A200, H⟩ := H
              have A20 := Aside0.mk A200
              clear A200
              obtain ⟨y606, hy606⟩ : ∃ y_ : List Int, y_ = (([] : List Int)) := ⟨_, rfl⟩
              replace H : (spec_PadeOf.l0 kj4 a0 a2 y600 t603 y606 (([1] : List Int))) = some (r1, r2, r3) := by first | (rw [hy606]; with_reducible exact H) | (have H2_ := (Option.bind_some _ _).symm.trans H; rw [hy606]; with_reducible exact H2_) | (have H2_ := (Option.bind_some _ _).symm.trans H; with_reducible exact H2_) | with_reducible exact H | (rw [hy606]; exact H) | exact H
              have Ny606 := Aside0.mk hy606
              clear hy606
              obtain ⟨y609, hy609⟩ : ∃ y_ : List Int, y_ = (([1] : List Int)) := ⟨_, rfl⟩
              replace H : (spec_PadeOf.l0 kj4 a0 a2 y600 t603 y606 y609) = some (r1, r2, r3) := by first | (rw [hy609]; with_reducible exact H) | (have H2_ := (Option.bind_some _ _).symm.trans H; rw [hy609]; with_reducible exact H2_) | (have H2_ := (Option.bind_some _ _).symm.trans H; with_reducible exact H2_) | with_reducible exact H | (rw [hy609]; exact H) | exact H
              have Ny609 := Aside0.mk hy609
              clear hy609
              have H' := Aside0.mk H
              clear H
              go_wp2_with (first | ((with_reducible refine gate_dst (N := 57) rfl ?_); (try (refine gate_guard (by rfl) ?_; dsimp only)); refine Kd.R_make (Kd.int .i64) _ 2 rfl (N := 57) rfl 22 _ _ rfl ji16 rfl rfl Try.underlying22 (.int .i64 0) 8 info2 rfl (by decide) (by omega) 0 (ok := fun _ => True) (okp := fun _ => True) rfl (fun _ hk => hk) trivial (of_decide_eq_true (by first | (with_reducible assumption) | assumption)) (Nat.le_trans (Nat.mul_le_mul_right _ (of_decide_eq_true (by first | (with_reducible assumption) | assumption) : ji16.toNat ≤ 35184372088832)) (by omega)) (Below.refl _ _) (Nat.le_refl _) ?_; intro v598 w21 ho22 hb hg_ hnew_; clear hg_ hnew_; (first | rw [← Ny597.out] at ho22 | (simp only [Int.reduceToNat] at ho22; rw [← Ny597.out] at ho22)); have n0_ := Aside0.mk (Kd.R_lower ho22 (below_size (bs HB))); have n1_ := Aside0.mk (below_step (bs HB) hb); clear HB; have HO599 := n0_; have HB := n1_; clear n0_ n1_; clear hb ho22) | ((with_reducible refine gate_builtin (b := .append) (xs := #[.tmp 57, .tmp 58]) rfl ?_); (try (refine gate_guard (by rfl) ?_; dsimp only)); at_builtin; refine Kd.R_append (Kd.int .i64) (w0 := w) w.heap.size rfl (.tmp 57) (.tmp 58) 22 2 (.int .i64 0) 8 rfl Try.underlying22 info2 rfl (by decide) (by omega) v598 y597 1 [.int .i64 1] (fun _ => True) (fun _ => False) rfl rfl ?aP (fun _ hk => hk.elim) ?aF ?aO ?aB ?aS ?aL ?_; (case aP => exact rfl); (case aB => exact (bs HB)); (case aF => exact (fun _ _ => trivial)); (case aO => exact (rs HO599)); (case aS => exact (below_size (bs HB))); (case aL => have := LMc19.out; omega); intro v601 w23 ho hb hg hat; rw [← Ny600.out] at ho; have n0_ := Aside0.mk (hb); have n1_ := Aside0.mk (ho); clear HB; clear HO599; have HB := n0_; have HO602 := n1_; clear n0_ n1_; clear ho hb hg hat) | ((with_reducible refine gate_callee (f := 50) rfl ?_); refine goesM_ (some 61) rfl rfl Try.func50 #[.slice A1 l1.length c1] rfl ?_; (with_reducible refine (spec_l01Trim.calls kj4 _ _ l1 t603 _ ?side1 ?side2 A20.out).mono ?_); (case side1 => exact cs ((Kd.C_below HR1.out HB.out))); (case side2 => exact HC1.out); rintro e w24 ⟨v604, rfl, ho0, hb⟩; refine ⟨_, rfl, ?_⟩; have n0_ := Aside0.mk (Kd.R_elder' (rs HO602) (Kd.R_base ho0) hb); have n1_ := Aside0.mk (Kd.R_lower (Kd.R_new' ho0 (Kd.R_lt (rs HO602))) (below_size (bs HB))); have n2_ := Aside0.mk (below_step (bs HB) hb); clear HO602; clear HB; have HO602 := n0_; have HO605 := n1_; have HB := n2_; clear n0_ n1_ n2_; (try clear hb); (try clear hb2); (try clear hk); (try clear hi); (try clear ho0)) | ((with_reducible refine gate_dst (N := 62) rfl ?_); (try (refine gate_guard (by rfl) ?_; dsimp only)); refine Kd.R_lit (Kd.int .i64) _ 2 ?hg (N := 62) ?hd (xs := ([] : List Int)) (inner := []) (ok := fun _ => True) (okp := fun _ => True) ?hr ?hp (fun _ hk => hk) trivial (Below.refl _ _) (Nat.le_refl _) (by simp) ?_; (case hd => rfl); (case hg => rfl); (case hr => first | (go_simp; done) | (go_simp; rfl)); (case hp => exact (Reps.none _ _)); intro v607 w25 ho26 hb hg_ hnew_; clear hg_ hnew_; (first | rw [← Ny606.out] at ho26 | (simp only [Int.reduceToNat] at ho26; rw [← Ny606.out] at ho26)); have n0_ := Aside0.mk (Kd.R_elder' (rs HO602) (Kd.R_base ho26) hb); have n1_ := Aside0.mk (Kd.R_elder' (rs HO605) (Kd.R_base ho26) hb); have n2_ := Aside0.mk (Kd.R_lower (Kd.R_new' (Kd.R_new' ho26 (Kd.R_lt (rs HO602))) (Kd.R_lt (rs HO605))) (below_size (bs HB))); have n3_ := Aside0.mk (below_step (bs HB) hb); clear HO602; clear HO605; clear HB; have HO602 := n0_; have HO605 := n1_; have HO608 := n2_; have HB := n3_; clear n0_ n1_ n2_ n3_; clear hb ho26) | ((with_reducible refine gate_dst (N := 63) rfl ?_); (try (refine gate_guard (by rfl) ?_; dsimp only)); refine Kd.R_lit (Kd.int .i64) _ 2 ?hg (N := 63) ?hd (xs := ([1] : List Int)) (inner := [.int .i64 1]) (ok := fun _ => True) (okp := fun _ => True) ?hr ?hp (fun _ hk => hk) trivial (Below.refl _ _) (Nat.le_refl _) (by simp) ?_; (case hd => rfl); (case hg => rfl); (case hr => first | (go_simp; done) | (go_simp; rfl)); (case hp => exact (Reps.one (show Kd.M (Kd.int .i64) _ _ _ 1 [.int .i64 1] from rfl) (Reps.none _ _))); intro v610 w27 ho28 hb hg_ hnew_; clear hg_ hnew_; (first | rw [← Ny609.out] at ho28 | (simp only [Int.reduceToNat] at ho28; rw [← Ny609.out] at ho28)); have n0_ := Aside0.mk (Kd.R_elder' (rs HO602) (Kd.R_base ho28) hb); have n1_ := Aside0.mk (Kd.R_elder' (rs HO605) (Kd.R_base ho28) hb); have n2_ := Aside0.mk (Kd.R_elder' (rs HO608) (Kd.R_base ho28) hb); have n3_ := Aside0.mk (Kd.R_lower (Kd.R_new' (Kd.R_new' (Kd.R_new' ho28 (Kd.R_lt (rs HO602))) (Kd.R_lt (rs HO605))) (Kd.R_lt (rs HO608))) (below_size (bs HB))); have n4_ := Aside0.mk (below_step (bs HB) hb); clear HO602; clear HO605; clear HO608; clear HB; have HO602 := n0_; have HO605 := n1_; have HO608 := n2_; have HO611 := n3_; have HB := n4_; clear n0_ n1_ n2_ n3_ n4_; clear hb ho28))
              go_loopg [11, 12, 13, 14] kj4 (fun kq v11 v12 v13 v14 w' => ∃ (x11_2 : List Int) (x12_2 : List Int) (x13_2 : List Int) (x14_2 : List Int), Aside0 (spec_PadeOf.l0 kq a0 a2 x11_2 x12_2 x13_2 x14_2 = some (r1, r2, r3)) ∧ Aside0 (kq ≤ kj4) ∧ Aside0 (Kd.R (Kd.int .i64) 2 w' w.heap.size (fun k_ => some k_ ≠ (v12 : Value).ownBlock ∧ some k_ ≠ (v13 : Value).ownBlock ∧ some k_ ≠ (v14 : Value).ownBlock) v11 x11_2) ∧ Aside0 (Kd.R (Kd.int .i64) 2 w' w.heap.size (fun k_ => some k_ ≠ (v11 : Value).ownBlock ∧ some k_ ≠ (v13 : Value).ownBlock ∧ some k_ ≠ (v14 : Value).ownBlock) v12 x12_2) ∧ Aside0 (Kd.R (Kd.int .i64) 2 w' w.heap.size (fun k_ => some k_ ≠ (v11 : Value).ownBlock ∧ some k_ ≠ (v12 : Value).ownBlock ∧ some k_ ≠ (v14 : Value).ownBlock) v13 x13_2) ∧ Aside0 (Kd.R (Kd.int .i64) 2 w' w.heap.size (fun k_ => some k_ ≠ (v11 : Value).ownBlock ∧ some k_ ≠ (v12 : Value).ownBlock ∧ some k_ ≠ (v13 : Value).ownBlock) v14 x14_2) ∧ Aside0 (Below w.heap.size w w'))
              case atStart => exact ⟨(y600), (t603), (y606), (y609), H', ⟨Nat.le_refl _⟩, ⟨by (with_reducible repeat (first | apply Kd.R_alloc | apply Kd.R_drewN | apply Kd.R_drew)); exact Kd.R_mono HO602.out (fun _ hk => ⟨hk.1.1.2, ⟨hk.1.2, hk.2⟩⟩)⟩, ⟨by (with_reducible repeat (first | apply Kd.R_alloc | apply Kd.R_drewN | apply Kd.R_drew)); exact Kd.R_mono HO605.out (fun _ hk => ⟨hk.1.1.2, ⟨hk.1.2, hk.2⟩⟩)⟩, ⟨by (with_reducible repeat (first | apply Kd.R_alloc | apply Kd.R_drewN | apply Kd.R_drew)); exact Kd.R_mono HO608.out (fun _ hk => ⟨hk.1.1.2, ⟨hk.1.2, hk.2⟩⟩)⟩, ⟨by (with_reducible repeat (first | apply Kd.R_alloc | apply Kd.R_drewN | apply Kd.R_drew)); exact Kd.R_mono HO611.out (fun _ hk => ⟨hk.1.1.2, ⟨hk.1.2, hk.2⟩⟩)⟩, ⟨by repeat (first | (with_reducible first | exact HB.out | apply below_alloc | apply pw_below_drewN | apply below_drew1) | exact HB.out)⟩⟩
              case round =>
                clear H'
                try clear c1
                try clear c2
                try clear p2
                try clear c4
                try clear c5
                try clear p6
                try clear c7
                try clear c9
                try clear c11
                try clear c12
                try clear c12b0
                try clear c13
                try clear c13b0
                try clear c13b1
                try clear c15
                try clear c17
                try clear c17b0
                try clear c17b1
                try clear c18
                try clear c18b0
                try clear c18b1
                try clear c19
                try clear c26
                try clear p2
                try clear p6
                obtain ⟨x11_2, x12_2, x13_2, x14_2, HA, HK2, HO_11, HO_12, HO_13, HO_14, HB⟩ := hrel
                cases gk with
                | zero => exact absurd HA.out (by simp [spec_PadeOf.l0])
                | succ k2 =>
                  have H := HA.out
                  clear HA
                  simp only [spec_PadeOf.l0] at H
                  by_cases c29 : (wrap64 ((x12_2.length : Int) - 1)) > a2
                  · rw [if_pos c29] at H
                    have c29b0 : decide (a2 < (wrap64 ((x12_2.length : Int) - 1))) = true := decide_eq_true c29
                    clear c29
                    replace H := Option.bind_eq_some_iff.mp H
                    obtain ⟨⟨t612, t613⟩, A300, H⟩ := H
                    have A30 := Aside0.mk A300
                    clear A300
                    replace H := Option.bind_eq_some_iff.mp H
                    obtain ⟨t618, A310, H⟩ := H
                    have A31 := Aside0.mk A310
                    clear A310
                    replace H := Option.bind_eq_some_iff.mp H
                    obtain ⟨t621, A320, H⟩ := H
                    have A32 := Aside0.mk A320
                    clear A320
                    have H' := Aside0.mk H
                    clear H
                    obtain ⟨Ao33, co33, eo33⟩ := Kd.R_slice HO_12.out
                    subst eo33
                    obtain ⟨Ao34, co34, eo34⟩ := Kd.R_slice HO_11.out
                    subst eo34
                    go_wp2_with (first | ((with_reducible refine gate_callee (f := 34) rfl ?_); refine goesM_ (some 73) rfl rfl Try.func34 #[.int .i64 a0, .slice Ao34 x11_2.length co34, .slice Ao33 x12_2.length co33] rfl ?_; (with_reducible refine (spec_l01Divide.calls k2 a0 _ _ x11_2 _ _ x12_2 t612 t613 _ ?side1 ?side2 ?side3 ?side4 A30.out).mono ?_); (case side1 => exact cs ((Kd.R_reads' HO_11.out).2.2)); (case side2 => exact (Kd.R_reads' HO_11.out).2.1); (case side3 => exact cs ((Kd.R_reads' HO_12.out).2.2)); (case side4 => exact (Kd.R_reads' HO_12.out).2.1); rintro e w35 ⟨v614, v616, rfl, ho0, ho1, hb⟩; refine ⟨_, rfl, ?_⟩; have n0_ := Aside0.mk (Kd.R_mono (Kd.R_told (Kd.R_told (Kd.R_old (rs HO_11) hb) (Kd.R_base ho0)) (Kd.R_base ho1)) (fun _ h_ => h_.1)); have n1_ := Aside0.mk (Kd.R_mono (Kd.R_told (Kd.R_told (Kd.R_old (rs HO_12) hb) (Kd.R_base ho0)) (Kd.R_base ho1)) (fun _ h_ => h_.1)); have n2_ := Aside0.mk (Kd.R_mono (Kd.R_told (Kd.R_told (Kd.R_old (rs HO_13) hb) (Kd.R_base ho0)) (Kd.R_base ho1)) (fun _ h_ => h_.1)); have n3_ := Aside0.mk (Kd.R_mono (Kd.R_told (Kd.R_told (Kd.R_old (rs HO_14) hb) (Kd.R_base ho0)) (Kd.R_base ho1)) (fun _ h_ => h_.1)); have n4_ := Aside0.mk (Kd.R_lower (Kd.R_new' (Kd.R_new' (Kd.R_new' (Kd.R_new' ho0 (Kd.R_lt (rs HO_11))) (Kd.R_lt (rs HO_12))) (Kd.R_lt (rs HO_13))) (Kd.R_lt (rs HO_14))) (below_size (bs HB))); have n5_ := Aside0.mk (Kd.R_lower (Kd.R_new' (Kd.R_new' (Kd.R_new' (Kd.R_new' ho1 (Kd.R_lt (rs HO_11))) (Kd.R_lt (rs HO_12))) (Kd.R_lt (rs HO_13))) (Kd.R_lt (rs HO_14))) (below_size (bs HB))); have n6_ := Aside0.mk (below_step (bs HB) hb); clear HO_11; clear HO_12; clear HO_13; clear HO_14; clear HB; have HO_11 := n0_; have HO_12 := n1_; have HO_13 := n2_; have HO_14 := n3_; have HO615 := n4_; have HO617 := n5_; have HB := n6_; clear n0_ n1_ n2_ n3_ n4_ n5_ n6_; (try clear hb); (try clear hb2); (try clear hk); (try clear hi); (try clear ho0); (try clear ho1); obtain ⟨Ao36, co36, eo36⟩ := Kd.R_slice HO615.out; subst eo36; obtain ⟨Ao37, co37, eo37⟩ := Kd.R_slice HO_14.out; subst eo37) | ((with_reducible refine gate_callee (f := 52) rfl ?_); refine goesM_ (some 81) rfl rfl Try.func52 #[.int .i64 a0, .slice Ao36 t612.length co36, .slice Ao37 x14_2.length co37] rfl ?_; (with_reducible refine (spec_l01Times.calls k2 a0 _ _ t612 _ _ x14_2 t618 _ ?side1 ?side2 ?side3 ?side4 A31.out).mono ?_); (case side1 => exact cs ((Kd.R_reads' HO615.out).2.2)); (case side2 => exact (Kd.R_reads' HO615.out).2.1); (case side3 => exact cs ((Kd.R_reads' HO_14.out).2.2)); (case side4 => exact (Kd.R_reads' HO_14.out).2.1); rintro e w38 ⟨v619, rfl, ho0, hb⟩; refine ⟨_, rfl, ?_⟩; have n0_ := Aside0.mk (Kd.R_elder' (rs HO_11) (Kd.R_base ho0) hb); have n1_ := Aside0.mk (Kd.R_elder' (rs HO_12) (Kd.R_base ho0) hb); have n2_ := Aside0.mk (Kd.R_elder' (rs HO_13) (Kd.R_base ho0) hb); have n3_ := Aside0.mk (Kd.R_elder' (rs HO_14) (Kd.R_base ho0) hb); have n4_ := Aside0.mk (Kd.R_elder' (rs HO615) (Kd.R_base ho0) hb); have n5_ := Aside0.mk (Kd.R_elder' (rs HO617) (Kd.R_base ho0) hb); have n6_ := Aside0.mk (Kd.R_lower (Kd.R_new' (Kd.R_new' (Kd.R_new' (Kd.R_new' (Kd.R_new' (Kd.R_new' ho0 (Kd.R_lt (rs HO_11))) (Kd.R_lt (rs HO_12))) (Kd.R_lt (rs HO_13))) (Kd.R_lt (rs HO_14))) (Kd.R_lt (rs HO615))) (Kd.R_lt (rs HO617))) (below_size (bs HB))); have n7_ := Aside0.mk (below_step (bs HB) hb); clear HO_11; clear HO_12; clear HO_13; clear HO_14; clear HO615; clear HO617; clear HB; have HO_11 := n0_; have HO_12 := n1_; have HO_13 := n2_; have HO_14 := n3_; have HO615 := n4_; have HO617 := n5_; have HO620 := n6_; have HB := n7_; clear n0_ n1_ n2_ n3_ n4_ n5_ n6_ n7_; (try clear hb); (try clear hb2); (try clear hk); (try clear hi); (try clear ho0); obtain ⟨Ao39, co39, eo39⟩ := Kd.R_slice HO_13.out; subst eo39; obtain ⟨Ao40, co40, eo40⟩ := Kd.R_slice HO620.out; subst eo40) | ((with_reducible refine gate_callee (f := 51) rfl ?_); refine goesM_ (some 84) rfl rfl Try.func51 #[.int .i64 a0, .slice Ao39 x13_2.length co39, .slice Ao40 t618.length co40, .int .i64 (wrap64 (a0 - 1))] rfl ?_; (with_reducible refine (spec_l01Add.calls k2 a0 _ _ x13_2 _ _ t618 (wrap64 (a0 - 1)) t621 _ ?side1 ?side2 ?side3 ?side4 A32.out).mono ?_); (case side1 => exact cs ((Kd.R_reads' HO_13.out).2.2)); (case side2 => exact (Kd.R_reads' HO_13.out).2.1); (case side3 => exact cs ((Kd.R_reads' HO620.out).2.2)); (case side4 => exact (Kd.R_reads' HO620.out).2.1); rintro e w41 ⟨v622, rfl, ho0, hb⟩; refine ⟨_, rfl, ?_⟩; have n0_ := Aside0.mk (Kd.R_elder' (rs HO_11) (Kd.R_base ho0) hb); have n1_ := Aside0.mk (Kd.R_elder' (rs HO_12) (Kd.R_base ho0) hb); have n2_ := Aside0.mk (Kd.R_elder' (rs HO_13) (Kd.R_base ho0) hb); have n3_ := Aside0.mk (Kd.R_elder' (rs HO_14) (Kd.R_base ho0) hb); have n4_ := Aside0.mk (Kd.R_elder' (rs HO615) (Kd.R_base ho0) hb); have n5_ := Aside0.mk (Kd.R_elder' (rs HO617) (Kd.R_base ho0) hb); have n6_ := Aside0.mk (Kd.R_elder' (rs HO620) (Kd.R_base ho0) hb); have n7_ := Aside0.mk (Kd.R_lower (Kd.R_new' (Kd.R_new' (Kd.R_new' (Kd.R_new' (Kd.R_new' (Kd.R_new' (Kd.R_new' ho0 (Kd.R_lt (rs HO_11))) (Kd.R_lt (rs HO_12))) (Kd.R_lt (rs HO_13))) (Kd.R_lt (rs HO_14))) (Kd.R_lt (rs HO615))) (Kd.R_lt (rs HO617))) (Kd.R_lt (rs HO620))) (below_size (bs HB))); have n8_ := Aside0.mk (below_step (bs HB) hb); clear HO_11; clear HO_12; clear HO_13; clear HO_14; clear HO615; clear HO617; clear HO620; clear HB; have HO_11 := n0_; have HO_12 := n1_; have HO_13 := n2_; have HO_14 := n3_; have HO615 := n4_; have HO617 := n5_; have HO620 := n6_; have HO623 := n7_; have HB := n8_; clear n0_ n1_ n2_ n3_ n4_ n5_ n6_ n7_ n8_; (try clear hb); (try clear hb2); (try clear hk); (try clear hi); (try clear ho0)))
                    go_roundg k2
                    case measure => have := HJ4.out; have := HK2.out; omega
                    case rel => exact ⟨(x12_2), (t613), (x14_2), (t621), H', ⟨by have := HJ4.out; have := HK2.out; omega⟩, ⟨by (with_reducible repeat (first | apply Kd.R_alloc | apply Kd.R_drewN | apply Kd.R_drew)); exact Kd.R_mono HO_12.out (fun _ hk => ⟨hk.1.1.2, ⟨hk.1.1.1.1.2.2, hk.2⟩⟩)⟩, ⟨by (with_reducible repeat (first | apply Kd.R_alloc | apply Kd.R_drewN | apply Kd.R_drew)); exact Kd.R_mono HO617.out (fun _ hk => ⟨hk.1.1.1.1.2, ⟨hk.1.1.2, hk.2⟩⟩)⟩, ⟨by (with_reducible repeat (first | apply Kd.R_alloc | apply Kd.R_drewN | apply Kd.R_drew)); exact Kd.R_mono HO_14.out (fun _ hk => ⟨hk.1.1.1.1.2.1, ⟨hk.1.1.2, hk.2⟩⟩)⟩, ⟨by (with_reducible repeat (first | apply Kd.R_alloc | apply Kd.R_drewN | apply Kd.R_drew)); exact Kd.R_mono HO623.out (fun _ hk => ⟨hk.1.1.1.1.1.2, ⟨hk.1.2, hk.1.1.1.2⟩⟩)⟩, ⟨by repeat (first | (with_reducible first | exact HB.out | apply below_alloc | apply pw_below_drewN | apply below_drew1) | exact HB.out)⟩⟩
                  · rw [if_neg c29] at H
                    have c29b0 : decide (a2 < (wrap64 ((x12_2.length : Int) - 1))) = false := decide_eq_false c29
                    clear c29
                    by_cases c42 : 0 < (x14_2.length : Int)
                    · rw [if_pos c42] at H
                      have c42b0 : decide (0 < (x14_2.length : Int)) = true := decide_eq_true c42
                      have c42b1 : decide (0 < x14_2.length) = true := decide_eq_true (by omega)
                      clear c42
                      by_cases c43 : (rd x14_2 0) = 0
                      · rw [if_pos c43] at H
                        have c43b0 : ((rd x14_2 0) == 0) = true := beq_iff_eq.mpr c43
                        have c43b1 : ((rd x14_2 0) != 0) = false := bne_eq_false_iff_eq.mpr c43
                        clear c43
                        simp only [Option.some.injEq, Prod.mk.injEq] at H
                        obtain ⟨rfl, rfl, rfl⟩ := H
                        obtain ⟨Ao44, co44, eo44⟩ := Kd.R_slice HO_12.out
                        subst eo44
                        obtain ⟨Ao45, co45, eo45⟩ := Kd.R_slice HO_14.out
                        subst eo45
                        have p624 : 0 ≤ (0 : Int) := (by omega)
                        have q624 : 0 < (x14_2.length : Int) := of_decide_eq_true (by first | (with_reducible assumption) | assumption)
                        obtain ⟨ad624, e624, hx624_0⟩ := Kd.at_int (Kd.R_reads' HO_14.out).2.2 0 p624 q624
                        cases e624
                        have qi624 : (0 < x14_2.length) = True := eq_true (by omega)
                        (try rw [show ((0 : Int)).toNat = 0 from rfl] at hx624_0)
                        (try rw [Addr.add_zero'] at hx624_0)
                        replace p624 := eq_true p624
                        replace q624 := eq_true q624
                        go_wp2
                        go_ret3
                        exact ⟨_, _, by first | rfl | (simp [errW_none, errW_some] <;> rfl) | (simp only [← hji16]; first | rfl | (simp [errW_none, errW_some] <;> rfl)) | (simp [*, errW_none, errW_some] <;> rfl), by first | exact Kd.R_nil _ _ _ _ _ | exact Kd.N_nil _ _ _ _ _ | exact Kd.V_nil _ _ _ _ _ | exact Kd.Q_nil _ _ _ _ _ | exact Kd.S_nil _ _ _ _ _, by first | exact Kd.R_nil _ _ _ _ _ | exact Kd.N_nil _ _ _ _ _ | exact Kd.V_nil _ _ _ _ _ | exact Kd.Q_nil _ _ _ _ _ | exact Kd.S_nil _ _ _ _ _, by repeat (first | (with_reducible first | exact HB.out | apply below_alloc | apply pw_below_drewN | apply below_drew1) | exact HB.out)⟩
                      · rw [if_neg c43] at H
                        have c43b0 : ((rd x14_2 0) == 0) = false := beq_eq_false_iff_ne.mpr c43
                        have c43b1 : ((rd x14_2 0) != 0) = true := bne_iff_ne.mpr c43
                        replace H := Option.bind_eq_some_iff.mp H
                        obtain ⟨t626, A460, H⟩ := H
                        have A46 := Aside0.mk A460
                        clear A460
                        obtain ⟨y627, hy627⟩ : ∃ y_ : List Int, y_ = (([] : List Int)) := ⟨_, rfl⟩
                        replace H : ((spec_l01Add.f k2 a0 y627 x12_2 t626).bind fun t630 => ((spec_l01Add.f k2 a0 (([] : List Int)) x14_2 t626).bind fun t636 => (some (t630, t636, 0)))) = some (r1, r2, r3) := by first | (rw [hy627]; with_reducible exact H) | (have H2_ := (Option.bind_some _ _).symm.trans H; rw [hy627]; with_reducible exact H2_) | (have H2_ := (Option.bind_some _ _).symm.trans H; with_reducible exact H2_) | with_reducible exact H | (rw [hy627]; exact H) | exact H
                        have Ny627 := Aside0.mk hy627
                        clear hy627
                        replace H := Option.bind_eq_some_iff.mp H
                        obtain ⟨t630, A470, H⟩ := H
                        have A47 := Aside0.mk A470
                        clear A470
                        obtain ⟨y633, hy633⟩ : ∃ y_ : List Int, y_ = (([] : List Int)) := ⟨_, rfl⟩
                        replace H : ((spec_l01Add.f k2 a0 y633 x14_2 t626).bind fun t636 => (some (t630, t636, 0))) = some (r1, r2, r3) := by first | (rw [hy633]; with_reducible exact H) | (have H2_ := (Option.bind_some _ _).symm.trans H; rw [hy633]; with_reducible exact H2_) | (have H2_ := (Option.bind_some _ _).symm.trans H; with_reducible exact H2_) | with_reducible exact H | (rw [hy633]; exact H) | exact H
                        have Ny633 := Aside0.mk hy633
                        clear hy633
                        replace H := Option.bind_eq_some_iff.mp H
                        obtain ⟨t636, A480, H⟩ := H
                        have A48 := Aside0.mk A480
                        clear A480
                        simp only [Option.some.injEq, Prod.mk.injEq] at H
                        obtain ⟨rfl, rfl, rfl⟩ := H
                        obtain ⟨Ao49, co49, eo49⟩ := Kd.R_slice HO_12.out
                        subst eo49
                        obtain ⟨Ao50, co50, eo50⟩ := Kd.R_slice HO_14.out
                        subst eo50
                        have p624 : 0 ≤ (0 : Int) := (by omega)
                        have q624 : 0 < (x14_2.length : Int) := of_decide_eq_true (by first | (with_reducible assumption) | assumption)
                        obtain ⟨ad624, e624, hx624_0⟩ := Kd.at_int (Kd.R_reads' HO_14.out).2.2 0 p624 q624
                        cases e624
                        have qi624 : (0 < x14_2.length) = True := eq_true (by omega)
                        (try rw [show ((0 : Int)).toNat = 0 from rfl] at hx624_0)
                        (try rw [Addr.add_zero'] at hx624_0)
                        replace p624 := eq_true p624
                        replace q624 := eq_true q624
                        have p625 : 0 ≤ (0 : Int) := (by omega)
                        have q625 : 0 < (x14_2.length : Int) := of_decide_eq_true (by first | (with_reducible assumption) | assumption)
                        obtain ⟨ad625, e625, hx625_0⟩ := Kd.at_int (Kd.R_reads' HO_14.out).2.2 0 p625 q625
                        obtain rfl : ad624 = ad625 := (by injection e625)
                        have qi625 : (0 < x14_2.length) = True := eq_true (by omega)
                        (try rw [show ((0 : Int)).toNat = 0 from rfl] at hx625_0)
                        (try rw [Addr.add_zero'] at hx625_0)
                        replace p625 := eq_true p625
                        replace q625 := eq_true q625
                        go_wp2_with (first | ((with_reducible refine gate_callee (f := 42) rfl ?_); refine goesM_ (some 97) rfl rfl Try.func42 #[.int .i64 a0, .int .i64 (rd x14_2 0)] rfl ?_; (with_reducible refine (spec_l01Inverse.calls k2 a0 (rd x14_2 0) t626 _ A46.out).mono ?_); rintro e w' ⟨rfl, ⟨nd, rfl⟩⟩; refine ⟨_, rfl, ?_⟩) | ((with_reducible refine gate_dst (N := 99) rfl ?_); (try (refine gate_guard (by rfl) ?_; dsimp only)); refine Kd.R_lit (Kd.int .i64) _ 2 ?hg (N := 99) ?hd (xs := ([] : List Int)) (inner := []) (ok := fun _ => True) (okp := fun _ => True) ?hr ?hp (fun _ hk => hk) trivial (Below.refl _ _) (Nat.le_refl _) (by simp) ?_; (case hd => rfl); (case hg => rfl); (case hr => first | (go_simp; done) | (go_simp; rfl)); (case hp => exact (Reps.none _ _)); intro v628 w51 ho52 hb hg_ hnew_; clear hg_ hnew_; (first | rw [← Ny627.out] at ho52 | (simp only [Int.reduceToNat] at ho52; rw [← Ny627.out] at ho52)); have n0_ := Aside0.mk (Kd.R_elder' (rs HO_11) (Kd.R_base ho52) hb); have n1_ := Aside0.mk (Kd.R_elder' (rs HO_12) (Kd.R_base ho52) hb); have n2_ := Aside0.mk (Kd.R_elder' (rs HO_13) (Kd.R_base ho52) hb); have n3_ := Aside0.mk (Kd.R_elder' (rs HO_14) (Kd.R_base ho52) hb); have n4_ := Aside0.mk (Kd.R_lower (Kd.R_new' (Kd.R_new' (Kd.R_new' (Kd.R_new' ho52 (Kd.R_lt (rs HO_11))) (Kd.R_lt (rs HO_12))) (Kd.R_lt (rs HO_13))) (Kd.R_lt (rs HO_14))) (below_size (bs HB))); have n5_ := Aside0.mk (below_step (bs HB) hb); clear HO_11; clear HO_12; clear HO_13; clear HO_14; clear HB; have HO_11 := n0_; have HO_12 := n1_; have HO_13 := n2_; have HO_14 := n3_; have HO629 := n4_; have HB := n5_; clear n0_ n1_ n2_ n3_ n4_ n5_; clear hb ho52; obtain ⟨Ao53, co53, eo53⟩ := Kd.R_slice HO629.out; subst eo53) | ((with_reducible refine gate_callee (f := 51) rfl ?_); refine goesM_ (some 102) rfl rfl Try.func51 #[.int .i64 a0, .slice Ao53 y627.length co53, .slice Ao49 x12_2.length co49, .int .i64 t626] rfl ?_; (with_reducible refine (spec_l01Add.calls k2 a0 _ _ y627 _ _ x12_2 t626 t630 _ ?side1 ?side2 ?side3 ?side4 A47.out).mono ?_); (case side1 => exact cs ((Kd.R_reads' HO629.out).2.2)); (case side2 => exact (Kd.R_reads' HO629.out).2.1); (case side3 => exact cs ((Kd.R_reads' HO_12.out).2.2)); (case side4 => exact (Kd.R_reads' HO_12.out).2.1); rintro e w54 ⟨v631, rfl, ho0, hb⟩; refine ⟨_, rfl, ?_⟩; have n0_ := Aside0.mk (Kd.R_elder' (rs HO_11) (Kd.R_base ho0) hb); have n1_ := Aside0.mk (Kd.R_elder' (rs HO_12) (Kd.R_base ho0) hb); have n2_ := Aside0.mk (Kd.R_elder' (rs HO_13) (Kd.R_base ho0) hb); have n3_ := Aside0.mk (Kd.R_elder' (rs HO_14) (Kd.R_base ho0) hb); have n4_ := Aside0.mk (Kd.R_elder' (rs HO629) (Kd.R_base ho0) hb); have n5_ := Aside0.mk (Kd.R_lower (Kd.R_new' (Kd.R_new' (Kd.R_new' (Kd.R_new' (Kd.R_new' ho0 (Kd.R_lt (rs HO_11))) (Kd.R_lt (rs HO_12))) (Kd.R_lt (rs HO_13))) (Kd.R_lt (rs HO_14))) (Kd.R_lt (rs HO629))) (below_size (bs HB))); have n6_ := Aside0.mk (below_step (bs HB) hb); clear HO_11; clear HO_12; clear HO_13; clear HO_14; clear HO629; clear HB; have HO_11 := n0_; have HO_12 := n1_; have HO_13 := n2_; have HO_14 := n3_; have HO629 := n4_; have HO632 := n5_; have HB := n6_; clear n0_ n1_ n2_ n3_ n4_ n5_ n6_; (try clear hb); (try clear hb2); (try clear hk); (try clear hi); (try clear ho0)) | ((with_reducible refine gate_dst (N := 104) rfl ?_); (try (refine gate_guard (by rfl) ?_; dsimp only)); refine Kd.R_lit (Kd.int .i64) _ 2 ?hg (N := 104) ?hd (xs := ([] : List Int)) (inner := []) (ok := fun _ => True) (okp := fun _ => True) ?hr ?hp (fun _ hk => hk) trivial (Below.refl _ _) (Nat.le_refl _) (by simp) ?_; (case hd => rfl); (case hg => rfl); (case hr => first | (go_simp; done) | (go_simp; rfl)); (case hp => exact (Reps.none _ _)); intro v634 w55 ho56 hb hg_ hnew_; clear hg_ hnew_; (first | rw [← Ny633.out] at ho56 | (simp only [Int.reduceToNat] at ho56; rw [← Ny633.out] at ho56)); have n0_ := Aside0.mk (Kd.R_elder' (rs HO_11) (Kd.R_base ho56) hb); have n1_ := Aside0.mk (Kd.R_elder' (rs HO_12) (Kd.R_base ho56) hb); have n2_ := Aside0.mk (Kd.R_elder' (rs HO_13) (Kd.R_base ho56) hb); have n3_ := Aside0.mk (Kd.R_elder' (rs HO_14) (Kd.R_base ho56) hb); have n4_ := Aside0.mk (Kd.R_elder' (rs HO629) (Kd.R_base ho56) hb); have n5_ := Aside0.mk (Kd.R_elder' (rs HO632) (Kd.R_base ho56) hb); have n6_ := Aside0.mk (Kd.R_lower (Kd.R_new' (Kd.R_new' (Kd.R_new' (Kd.R_new' (Kd.R_new' (Kd.R_new' ho56 (Kd.R_lt (rs HO_11))) (Kd.R_lt (rs HO_12))) (Kd.R_lt (rs HO_13))) (Kd.R_lt (rs HO_14))) (Kd.R_lt (rs HO629))) (Kd.R_lt (rs HO632))) (below_size (bs HB))); have n7_ := Aside0.mk (below_step (bs HB) hb); clear HO_11; clear HO_12; clear HO_13; clear HO_14; clear HO629; clear HO632; clear HB; have HO_11 := n0_; have HO_12 := n1_; have HO_13 := n2_; have HO_14 := n3_; have HO629 := n4_; have HO632 := n5_; have HO635 := n6_; have HB := n7_; clear n0_ n1_ n2_ n3_ n4_ n5_ n6_ n7_; clear hb ho56; obtain ⟨Ao57, co57, eo57⟩ := Kd.R_slice HO635.out; subst eo57) | ((with_reducible refine gate_callee (f := 51) rfl ?_); refine goesM_ (some 107) rfl rfl Try.func51 #[.int .i64 a0, .slice Ao57 y633.length co57, .slice (some ad624) x14_2.length co50, .int .i64 t626] rfl ?_; (with_reducible refine (spec_l01Add.calls k2 a0 _ _ y633 _ _ x14_2 t626 t636 _ ?side1 ?side2 ?side3 ?side4 A48.out).mono ?_); (case side1 => exact cs ((Kd.R_reads' HO635.out).2.2)); (case side2 => exact (Kd.R_reads' HO635.out).2.1); (case side3 => exact cs ((Kd.R_reads' HO_14.out).2.2)); (case side4 => exact (Kd.R_reads' HO_14.out).2.1); rintro e w58 ⟨v637, rfl, ho0, hb⟩; refine ⟨_, rfl, ?_⟩; have n0_ := Aside0.mk (Kd.R_elder' (rs HO_11) (Kd.R_base ho0) hb); have n1_ := Aside0.mk (Kd.R_elder' (rs HO_12) (Kd.R_base ho0) hb); have n2_ := Aside0.mk (Kd.R_elder' (rs HO_13) (Kd.R_base ho0) hb); have n3_ := Aside0.mk (Kd.R_elder' (rs HO_14) (Kd.R_base ho0) hb); have n4_ := Aside0.mk (Kd.R_elder' (rs HO629) (Kd.R_base ho0) hb); have n5_ := Aside0.mk (Kd.R_elder' (rs HO632) (Kd.R_base ho0) hb); have n6_ := Aside0.mk (Kd.R_elder' (rs HO635) (Kd.R_base ho0) hb); have n7_ := Aside0.mk (Kd.R_lower (Kd.R_new' (Kd.R_new' (Kd.R_new' (Kd.R_new' (Kd.R_new' (Kd.R_new' (Kd.R_new' ho0 (Kd.R_lt (rs HO_11))) (Kd.R_lt (rs HO_12))) (Kd.R_lt (rs HO_13))) (Kd.R_lt (rs HO_14))) (Kd.R_lt (rs HO629))) (Kd.R_lt (rs HO632))) (Kd.R_lt (rs HO635))) (below_size (bs HB))); have n8_ := Aside0.mk (below_step (bs HB) hb); clear HO_11; clear HO_12; clear HO_13; clear HO_14; clear HO629; clear HO632; clear HO635; clear HB; have HO_11 := n0_; have HO_12 := n1_; have HO_13 := n2_; have HO_14 := n3_; have HO629 := n4_; have HO632 := n5_; have HO635 := n6_; have HO638 := n7_; have HB := n8_; clear n0_ n1_ n2_ n3_ n4_ n5_ n6_ n7_ n8_; (try clear hb); (try clear hb2); (try clear hk); (try clear hi); (try clear ho0)))
                        go_ret3
                        exact ⟨_, _, by first | rfl | (simp [errW_none, errW_some] <;> rfl) | (simp only [← hji16]; first | rfl | (simp [errW_none, errW_some] <;> rfl)) | (simp [*, errW_none, errW_some] <;> rfl), by (with_reducible repeat (first | apply Kd.R_alloc | apply Kd.R_drewN | apply Kd.R_drew)); exact Kd.R_mono HO632.out (fun _ hk => hk.2), by (with_reducible repeat (first | apply Kd.R_alloc | apply Kd.R_drewN | apply Kd.R_drew)); exact Kd.R_mono HO638.out (fun _ hk => hk.1.2), by repeat (first | (with_reducible first | exact HB.out | apply below_alloc | apply pw_below_drewN | apply below_drew1) | exact HB.out)⟩
                    · rw [if_neg c42] at H
                      exact absurd H (by simp)
            · rw [if_neg c19] at H
              exact absurd H (by simp)
          · rw [if_neg c18] at H
            exact absurd H (by simp)
        · rw [if_neg c17] at H
          exact absurd H (by simp)

end Go.Proofs.Ytnhbpcfcgpcdfaa.H
