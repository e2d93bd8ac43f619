/- Joined texts of a claim: the printed functions and what is proved of them. -/
import Derived.Test.YtnigpjcnffgfgaaYHx0
import Derived.Test.YtnigpjcnffgfgaaMab3
import Derived.Test.YtnigpjcnffgfgaaMa8
namespace Go.Proofs.Ytnigpjcnffgfgaa.H
open Go.RowKit Go.Proofs.YtnigpjcnffgfgaaW.PrintWords Go.Proofs.YtnigpjcnffgfgaaW.PrintLast Go.Proofs.YtnigpjcnffgfgaaW.PrintMore
attribute [local go_sem] max2_int min2_int max_two min_two max_three min_three max_four min_four   -- for this text's walks alone
set_option linter.unusedVariables false
set_option linter.unusedSimpArgs false
mutual
def spec_l01Points.l0 : Nat → Int → List Int → Bool → Int → Option (Bool)
 | 0, _, _, _, _ => none
 | k + 1, x0, x1, x2, x7 => if x7 < (x1.length : Int) then (if 0 ≤ x7 then ((spec_l01In.f (rd x1 x7) 0 (wrap64 (x0 - 1))).bind fun t103 => (if t103 = true then (spec_l01Points.l1 k x0 x1 x2 x7 0) else (some false))) else (none)) else (some true)
def spec_l01Points.l1 : Nat → Int → List Int → Bool → Int → Int → Option (Bool)
 | 0, _, _, _, _, _ => none
 | k + 1, x0, x1, x2, x7, x8 => if x8 < x7 then (spec_l01Points.j2 k x0 x1 x2 x7 x8 x2) else (spec_l01Points.j2 k x0 x1 x2 x7 x8 false)
def spec_l01Points.j2 : Nat → Int → List Int → Bool → Int → Int → Bool → Option (Bool)
 | 0, _, _, _, _, _, _ => none
 | k + 1, x0, x1, x2, x7, x8, x28 => if x28 = true then (if 0 ≤ x8 then (if x8 < (x1.length : Int) then (if 0 ≤ x7 then (if x7 < (x1.length : Int) then (if (rd x1 x8) = (rd x1 x7) then (some false) else (spec_l01Points.l1 k x0 x1 x2 x7 (wrap64 (x8 + 1)))) else (none)) else (none)) else (none)) else (none)) else (spec_l01Points.l0 k x0 x1 x2 (wrap64 (x7 + 1)))
end
def spec_l01Points.f (k : Nat) (a0 : Int) (l1 : List Int) (a2 : Bool) : Option (Bool) := spec_l01Points.l0 k a0 l1 a2 0
set_option maxHeartbeats 8000000 in
set_option maxRecDepth 100000 in
theorem spec_l01Points.calls (k : Nat) (a0 : Int) (A1 : Option Addr) (c1 : Nat) (l1 : List Int) (a2 : Bool) (r : Bool) (w : World) (hr1 : Kd.C (Kd.int .i64) w A1 l1.length l1) (hc1 : l1.length ≤ c1) (h : spec_l01Points.f k a0 l1 a2 = some r) :
  Calls Try.prog 17 #[.int .i64 a0, .slice A1 l1.length c1, .bool a2] w fun e w' => e = .returned (.bool r) ∧ Drawn0 w w' := by
 have HR1 := as0 hr1
 have HC1 := as0 hc1
 clear hr1 hc1
 have H : (spec_l01Points.l0 k a0 l1 a2 0) = some r := h
 clear h
 have H' := as0 H
 clear H
 go_enter Try.func17, Try.ntmps17
 go_wp2
 repeat (go_quiet (fail); try go_wp2)
 go_loopg [7] k (fun kq v7 w' => ∃ (x7_1 : Int), v7 = .int .i64 x7_1 ∧ Aside0 (spec_l01Points.l0 kq a0 l1 a2 x7_1 = some r) ∧ Aside0 (kq ≤ k) ∧ Drawn0 w w')
 case atStart => exact ⟨(0), ea_, H', ⟨Nat.le_refl _⟩, dr_⟩
 case round =>
  clear H'
  try clear c1
  try clear p2
  obtain ⟨x7_1, rfl, HA, HK1, ⟨m1, rfl⟩⟩ := hrel
  cases gk with
  | zero => exact absurd HA.out (by simp [spec_l01Points.l0])
  | succ k1 =>
   have H := HA.out
   clear HA
   simp only [spec_l01Points.l0] at H
   by_cases c4 : x7_1 < (l1.length : Int)
   ·
    rw [if_pos c4] at H
    have c4b0 : decide (x7_1 < (l1.length : Int)) = true := decide_eq_true c4
    clear c4
    by_cases c5 : 0 ≤ x7_1
    ·
     rw [if_pos c5] at H
     have c5b0 : decide (0 ≤ x7_1) = true := decide_eq_true c5
     clear c5
     replace H := Option.bind_eq_some_iff.mp H
     obtain ⟨t103, A60, H⟩ := H
     have A6 := as0 A60
     clear A60
     by_cases c7 : t103 = true
     ·
      subst c7
      have H1 : (spec_l01Points.l1 k1 a0 l1 a2 x7_1 0) = some r := by rw [if_pos rfl] at H; exact H
      clear H
      have H := H1
      clear H1
      have H' := as0 H
      clear H
      have p102 : 0 ≤ (x7_1 : Int) := oa_
      have q102 : x7_1 < (l1.length : Int) := oa_
      obtain ⟨ad102, e102, hx102_0⟩ := Kd.at_int HR1.out x7_1 p102 q102
      cases e102
      replace p102 := eq_true p102
      replace q102 := eq_true q102
      go_wp2_with (first | (go_at_call 22; (with_reducible refine (spec_l01In.calls (rd l1 x7_1) 0 (wrap64 (a0 - 1)) true _ A6.out).mono ?_); rintro e w' ⟨rfl, ⟨nd, rfl⟩⟩; (try first | exact ⟨rfl, _, World.drewN_drewN _ _ _⟩ | exact ⟨rfl, _, Eq.trans (World.drewN_drewN _ _ _) (congrArg (World.drewN _) (Nat.add_assoc _ _ _))⟩)))
      repeat (go_quiet (first | (go_at_call 22; (with_reducible refine (spec_l01In.calls (rd l1 x7_1) 0 (wrap64 (a0 - 1)) true _ A6.out).mono ?_); rintro e w' ⟨rfl, ⟨nd, rfl⟩⟩; (try first | exact ⟨rfl, _, World.drewN_drewN _ _ _⟩ | exact ⟨rfl, _, Eq.trans (World.drewN_drewN _ _ _) (congrArg (World.drewN _) (Nat.add_assoc _ _ _))⟩))); try go_wp2_with (first | (go_at_call 22; (with_reducible refine (spec_l01In.calls (rd l1 x7_1) 0 (wrap64 (a0 - 1)) true _ A6.out).mono ?_); rintro e w' ⟨rfl, ⟨nd, rfl⟩⟩; (try first | exact ⟨rfl, _, World.drewN_drewN _ _ _⟩ | exact ⟨rfl, _, Eq.trans (World.drewN_drewN _ _ _) (congrArg (World.drewN _) (Nat.add_assoc _ _ _))⟩))))
      go_loopg [8] k1 (fun kq v8 w' => ∃ (x8_2 : Int), v8 = .int .i64 x8_2 ∧ Aside0 (spec_l01Points.l1 kq a0 l1 a2 x7_1 x8_2 = some r) ∧ Aside0 (kq ≤ k1) ∧ Drawn0 w w')
      case atStart => exact ⟨(0), ea_, H', ⟨Nat.le_refl _⟩, dr_⟩
      case round =>
       clear H'
       try clear c1
       try clear p1
       try clear q1
       try clear hx1
       try clear p2
       try clear c4
       try clear c4b0
       try clear c5
       try clear c5b0
       try clear p6
       try clear c7
       try clear hx102_0
       try clear p102
       try clear p2
       try clear q102
       obtain ⟨x8_2, rfl, HA, HK2, ⟨m2, rfl⟩⟩ := hrel
       cases gk with
       | zero => exact absurd HA.out (by simp [spec_l01Points.l1])
       | succ k2 =>
        have H := HA.out
        clear HA
        simp only [spec_l01Points.l1] at H
        have HC8 := as0 H
        clear H
        go_upto_region 7 with (fail)
        repeat (go_quiet (fail); go_upto_region 7 with (fail))
        go_cut [28] (fun v28 wc => ∃ (kq : Nat) (x28_7 : Bool), v28 = .bool x28_7 ∧ Aside0 (spec_l01Points.j2 kq a0 l1 a2 x7_1 x8_2 x28_7 = some r) ∧ Aside0 (kq ≤ k2) ∧ Drawn0 w wc)
        case first =>
         have H := HC8.out
         clear HC8
         by_cases c9 : x8_2 < x7_1
         ·
          rw [if_pos c9] at H
          have c9b0 : decide (x8_2 < x7_1) = true := decide_eq_true c9
          clear c9
          (first | rw [c9b0] | (simp only [i64_w, i32_w]; rw [c9b0]) | skip)
          have H' := as0 H
          clear H
          go_wp2
          repeat (go_quiet (fail); try go_wp2)
          go_meet
          case rel => exact ⟨_, (a2), ea_, H', ⟨by have := HK1.out; have := HK2.out; first | omega | exact Nat.le_refl _⟩, dr_⟩
         ·
          rw [if_neg c9] at H
          have c9b0 : decide (x8_2 < x7_1) = false := decide_eq_false c9
          clear c9
          (first | rw [c9b0] | (simp only [i64_w, i32_w]; rw [c9b0]) | skip)
          have H' := as0 H
          clear H
          go_wp2
          repeat (go_quiet (fail); try go_wp2)
          go_meet
          case rel => exact ⟨_, (false), ea_, H', ⟨by have := HK1.out; have := HK2.out; first | omega | exact Nat.le_refl _⟩, dr_⟩
        case rest =>
         clear HC8
         try clear c1
         try clear p1
         try clear q1
         try clear hx1
         try clear p2
         try clear c4
         try clear c4b0
         try clear c5
         try clear c5b0
         try clear p6
         try clear c7
         try clear c9
         try clear c9b0
         try clear hx102_0
         try clear p1
         try clear p102
         try clear p2
         try clear p6
         try clear q1
         try clear q102
         obtain ⟨kq, x28_7, rfl, HA, HJ7, ⟨mc7, rfl⟩⟩ := hcut
         cases kq with
         | zero => exact absurd HA.out (by simp [spec_l01Points.j2])
         | succ kj7 =>
          have H := HA.out
          clear HA
          simp only [spec_l01Points.j2] at H
          by_cases c10 : x28_7 = true
          ·
           subst c10
           have H1 : (if 0 ≤ x8_2 then (if x8_2 < (l1.length : Int) then (if 0 ≤ x7_1 then (if x7_1 < (l1.length : Int) then (if (rd l1 x8_2) = (rd l1 x7_1) then (some false) else (spec_l01Points.l1 kj7 a0 l1 a2 x7_1 (wrap64 (x8_2 + 1)))) else (none)) else (none)) else (none)) else (none)) = some r := by rw [if_pos rfl] at H; exact H
           clear H
           have H := H1
           clear H1
           by_cases c11 : 0 ≤ x8_2
           ·
            rw [if_pos c11] at H
            have c11b0 : decide (0 ≤ x8_2) = true := decide_eq_true c11
            clear c11
            by_cases c12 : x8_2 < (l1.length : Int)
            ·
             rw [if_pos c12] at H
             have c12b0 : decide (x8_2 < (l1.length : Int)) = true := decide_eq_true c12
             clear c12
             by_cases c13 : 0 ≤ x7_1
             ·
              rw [if_pos c13] at H
              have c13b0 : decide (0 ≤ x7_1) = true := decide_eq_true c13
              clear c13
              by_cases c14 : x7_1 < (l1.length : Int)
              ·
               rw [if_pos c14] at H
               have c14b0 : decide (x7_1 < (l1.length : Int)) = true := decide_eq_true c14
               clear c14
               by_cases c15 : (rd l1 x8_2) = (rd l1 x7_1)
               ·
                rw [if_pos c15] at H
                have c15b0 : ((rd l1 x8_2) == (rd l1 x7_1)) = true := beq_iff_eq.mpr c15
                have c15b1 : ((rd l1 x8_2) != (rd l1 x7_1)) = false := bne_eq_false_iff_eq.mpr c15
                clear c15
                obtain rfl := Option.some.inj H
                have p104 : 0 ≤ (x8_2 : Int) := oa_
                have q104 : x8_2 < (l1.length : Int) := oa_
                obtain ⟨ad104, e104, hx104_0⟩ := Kd.at_int HR1.out x8_2 p104 q104
                obtain rfl : ad102 = ad104 := (by injection e104)
                replace p104 := eq_true p104
                replace q104 := eq_true q104
                have p105 : 0 ≤ (x7_1 : Int) := oa_
                have q105 : x7_1 < (l1.length : Int) := oa_
                obtain ⟨ad105, e105, hx105_0⟩ := Kd.at_int HR1.out x7_1 p105 q105
                obtain rfl : ad102 = ad105 := (by injection e105)
                replace p105 := eq_true p105
                replace q105 := eq_true q105
                go_wp2
                repeat (go_quiet (fail); try go_wp2)
                go_ret
                exact ⟨ea_, dr_⟩
               ·
                rw [if_neg c15] at H
                have c15b0 : ((rd l1 x8_2) == (rd l1 x7_1)) = false := beq_eq_false_iff_ne.mpr c15
                have c15b1 : ((rd l1 x8_2) != (rd l1 x7_1)) = true := bne_iff_ne.mpr c15
                have H' := as0 H
                clear H
                have p104 : 0 ≤ (x8_2 : Int) := oa_
                have q104 : x8_2 < (l1.length : Int) := oa_
                obtain ⟨ad104, e104, hx104_0⟩ := Kd.at_int HR1.out x8_2 p104 q104
                obtain rfl : ad102 = ad104 := (by injection e104)
                replace p104 := eq_true p104
                replace q104 := eq_true q104
                have p105 : 0 ≤ (x7_1 : Int) := oa_
                have q105 : x7_1 < (l1.length : Int) := oa_
                obtain ⟨ad105, e105, hx105_0⟩ := Kd.at_int HR1.out x7_1 p105 q105
                obtain rfl : ad102 = ad105 := (by injection e105)
                replace p105 := eq_true p105
                replace q105 := eq_true q105
                go_wp2
                repeat (go_quiet (fail); try go_wp2)
                go_roundg kj7
                case measure => have := HK1.out; have := HK2.out; have := HJ7.out; omega
                case rel => exact ⟨(wrap64 (x8_2 + 1)), ea_, H', ⟨by have := HK1.out; have := HK2.out; have := HJ7.out; omega⟩, dr_⟩
              ·
               rw [if_neg c14] at H
               exact absurd H (by simp)
             ·
              rw [if_neg c13] at H
              exact absurd H (by simp)
            ·
             rw [if_neg c12] at H
             exact absurd H (by simp)
           ·
            rw [if_neg c11] at H
            exact absurd H (by simp)
          ·
           replace c10 := Bool.eq_false_iff.mpr c10
           subst c10
           have H1 : (spec_l01Points.l0 kj7 a0 l1 a2 (wrap64 (x7_1 + 1))) = some r := by rw [if_neg (show ¬ (false = true) by decide)] at H; exact H
           clear H
           have H := H1
           clear H1
           have H' := as0 H
           clear H
           go_wp2
           repeat (go_quiet (fail); try go_wp2)
           go_roundg kj7
           case measure => have := HK1.out; have := HK2.out; have := HJ7.out; omega
           case rel => exact ⟨(wrap64 (x7_1 + 1)), ea_, H', ⟨by have := HK1.out; have := HK2.out; have := HJ7.out; omega⟩, dr_⟩
     ·
      replace c7 := Bool.eq_false_iff.mpr c7
      subst c7
      have H1 : (some false) = some r := by rw [if_neg (show ¬ (false = true) by decide)] at H; exact H
      clear H
      have H := H1
      clear H1
      obtain rfl := Option.some.inj H
      have p102 : 0 ≤ (x7_1 : Int) := oa_
      have q102 : x7_1 < (l1.length : Int) := oa_
      obtain ⟨ad102, e102, hx102_0⟩ := Kd.at_int HR1.out x7_1 p102 q102
      cases e102
      replace p102 := eq_true p102
      replace q102 := eq_true q102
      go_wp2_with (first | (go_at_call 22; (with_reducible refine (spec_l01In.calls (rd l1 x7_1) 0 (wrap64 (a0 - 1)) false _ A6.out).mono ?_); rintro e w' ⟨rfl, ⟨nd, rfl⟩⟩; (try first | exact ⟨rfl, _, World.drewN_drewN _ _ _⟩ | exact ⟨rfl, _, Eq.trans (World.drewN_drewN _ _ _) (congrArg (World.drewN _) (Nat.add_assoc _ _ _))⟩)))
      repeat (go_quiet (first | (go_at_call 22; (with_reducible refine (spec_l01In.calls (rd l1 x7_1) 0 (wrap64 (a0 - 1)) false _ A6.out).mono ?_); rintro e w' ⟨rfl, ⟨nd, rfl⟩⟩; (try first | exact ⟨rfl, _, World.drewN_drewN _ _ _⟩ | exact ⟨rfl, _, Eq.trans (World.drewN_drewN _ _ _) (congrArg (World.drewN _) (Nat.add_assoc _ _ _))⟩))); try go_wp2_with (first | (go_at_call 22; (with_reducible refine (spec_l01In.calls (rd l1 x7_1) 0 (wrap64 (a0 - 1)) false _ A6.out).mono ?_); rintro e w' ⟨rfl, ⟨nd, rfl⟩⟩; (try first | exact ⟨rfl, _, World.drewN_drewN _ _ _⟩ | exact ⟨rfl, _, Eq.trans (World.drewN_drewN _ _ _) (congrArg (World.drewN _) (Nat.add_assoc _ _ _))⟩))))
      go_ret
      exact ⟨ea_, dr_⟩
    ·
     rw [if_neg c5] at H
     exact absurd H (by simp)
   ·
    rw [if_neg c4] at H
    have c4b0 : decide (x7_1 < (l1.length : Int)) = false := decide_eq_false c4
    clear c4
    obtain rfl := Option.some.inj H
    go_wp2
    repeat (go_quiet (fail); try go_wp2)
    go_ret
    exact ⟨ea_, dr_⟩
def spec_InterpolatePoly.f (k : Nat) (a0 : Int) (l1 : List Int) (l2 : List Int) : Option (List Int × Int) := (spec_l01Prime.f k a0).bind fun t176 => (if t176 = true then (if (l1.length : Int) > 25 then (some (([] : List Int), 2)) else (if (l2.length : Int) = (l1.length : Int) then ((spec_l01Points.f k a0 l1 true).bind fun t177 => (if t177 = true then ((spec_l01Points.f k a0 l2 false).bind fun t178 => (if t178 = true then ((spec_l01Interpolate.f k a0 l1 l2).bind fun t179 => (some (t179, 0))) else (some (([] : List Int), 2)))) else (some (([] : List Int), 2)))) else (some (([] : List Int), 2)))) else (some (([] : List Int), 2)))
set_option maxHeartbeats 8000000 in
set_option maxRecDepth 100000 in
theorem spec_InterpolatePoly.calls (k : Nat) (a0 : Int) (A1 : Option Addr) (c1 : Nat) (l1 : List Int) (A2 : Option Addr) (c2 : Nat) (l2 : List Int) (r1 : List Int) (r2 : Int) (w : World) (hr1 : Kd.C (Kd.int .i64) w A1 l1.length l1) (hc1 : l1.length ≤ c1) (hr2 : Kd.C (Kd.int .i64) w A2 l2.length l2) (hc2 : l2.length ≤ c2) (h : spec_InterpolatePoly.f k a0 l1 l2 = some (r1, r2)) :
  Calls Try.prog 5 #[.int .i64 a0, .slice A1 l1.length c1, .slice A2 l2.length c2] w fun e w' => ∃ v0_ : Value, e = .returned (.tuple #[v0_, .int .i64 r2]) ∧ Kd.R (Kd.int .i64) 2 w' w.heap.size (fun _ => True) v0_ r1 ∧ Below w.heap.size w w' := by
 have HR1 := as0 hr1
 have HC1 := as0 hc1
 clear hr1 hc1
 have HR2 := as0 hr2
 have HC2 := as0 hc2
 clear hr2 hc2
 have HB := as0 (Below.refl w.heap.size w)
 have H : ((spec_l01Prime.f k a0).bind fun t176 => (if t176 = true then (if (l1.length : Int) > 25 then (some (([] : List Int), 2)) else (if (l2.length : Int) = (l1.length : Int) then ((spec_l01Points.f k a0 l1 true).bind fun t177 => (if t177 = true then ((spec_l01Points.f k a0 l2 false).bind fun t178 => (if t178 = true then ((spec_l01Interpolate.f k a0 l1 l2).bind fun t179 => (some (t179, 0))) else (some (([] : List Int), 2)))) else (some (([] : List Int), 2)))) else (some (([] : List Int), 2)))) else (some (([] : List Int), 2)))) = some (r1, r2) := h
 clear h
 replace H := Option.bind_eq_some_iff.mp H
 obtain ⟨t176, A40, H⟩ := H
 have A4 := as0 A40
 clear A40
 by_cases c5 : t176 = true
 ·
  subst c5
  have H1 : (if (l1.length : Int) > 25 then (some (([] : List Int), 2)) else (if (l2.length : Int) = (l1.length : Int) then ((spec_l01Points.f k a0 l1 true).bind fun t177 => (if t177 = true then ((spec_l01Points.f k a0 l2 false).bind fun t178 => (if t178 = true then ((spec_l01Interpolate.f k a0 l1 l2).bind fun t179 => (some (t179, 0))) else (some (([] : List Int), 2)))) else (some (([] : List Int), 2)))) else (some (([] : List Int), 2)))) = some (r1, r2) := by rw [if_pos rfl] at H; exact H
  clear H
  have H := H1
  clear H1
  by_cases c6 : (l1.length : Int) > 25
  ·
   rw [if_pos c6] at H
   have c6b0 : decide (25 < (l1.length : Int)) = true := decide_eq_true c6
   have c6b1 : decide (25 < l1.length) = true := decide_eq_true (by omega)
   clear c6
   simp only [Option.some.injEq, Prod.mk.injEq] at H
   obtain ⟨rfl, rfl⟩ := H
   go_enter Try.func5, Try.ntmps5
   go_wp2_with (first | ((with_reducible refine gate_callee (f := 16) rfl ?_); refine goesM_ (some 9) rfl rfl Try.func16 #[.int .i64 a0] rfl ?_; (with_reducible refine (spec_l01Prime.calls k a0 true _ A4.out).mono ?_); rintro e w' ⟨rfl, ⟨nd, rfl⟩⟩; refine ⟨_, rfl, ?_⟩))
   go_ret2
   exact ⟨_, er_, by first | exact Kd.R_nil _ _ _ _ _ | exact Kd.N_nil _ _ _ _ _ | exact Kd.V_nil _ _ _ _ _ | exact Kd.Q_nil _ _ _ _ _ | exact Kd.S_nil _ _ _ _ _, bs HB⟩
  ·
   rw [if_neg c6] at H
   have c6b0 : decide (25 < (l1.length : Int)) = false := decide_eq_false c6
   have c6b1 : decide (25 < l1.length) = false := decide_eq_false (by omega)
   clear c6
   by_cases c7 : (l2.length : Int) = (l1.length : Int)
   ·
    rw [if_pos c7] at H
    have c7b0 : ((l2.length : Int) == (l1.length : Int)) = true := beq_iff_eq.mpr c7
    have c7b1 : ((l2.length : Int) != (l1.length : Int)) = false := bne_eq_false_iff_eq.mpr c7
    have c7b2 : (l2.length == l1.length) = true := by first | simpa using c7 | (simp at c7 ⊢; omega)
    clear c7
    replace H := Option.bind_eq_some_iff.mp H
    obtain ⟨t177, A80, H⟩ := H
    have A8 := as0 A80
    clear A80
    by_cases c9 : t177 = true
    ·
     subst c9
     have H1 : ((spec_l01Points.f k a0 l2 false).bind fun t178 => (if t178 = true then ((spec_l01Interpolate.f k a0 l1 l2).bind fun t179 => (some (t179, 0))) else (some (([] : List Int), 2)))) = some (r1, r2) := by rw [if_pos rfl] at H; exact H
     clear H
     have H := H1
     clear H1
     replace H := Option.bind_eq_some_iff.mp H
     obtain ⟨t178, A100, H⟩ := H
     have A10 := as0 A100
     clear A100
     by_cases c11 : t178 = true
     ·
      subst c11
      have H1 : ((spec_l01Interpolate.f k a0 l1 l2).bind fun t179 => (some (t179, 0))) = some (r1, r2) := by rw [if_pos rfl] at H; exact H
      clear H
      have H := H1
      clear H1
      replace H := Option.bind_eq_some_iff.mp H
      obtain ⟨t179, A120, H⟩ := H
      have A12 := as0 A120
      clear A120
      simp only [Option.some.injEq, Prod.mk.injEq] at H
      obtain ⟨rfl, rfl⟩ := H
      go_enter Try.func5, Try.ntmps5
      go_wp2_with (first | ((with_reducible refine gate_callee (f := 16) rfl ?_); refine goesM_ (some 9) rfl rfl Try.func16 #[.int .i64 a0] rfl ?_; (with_reducible refine (spec_l01Prime.calls k a0 true _ A4.out).mono ?_); rintro e w' ⟨rfl, ⟨nd, rfl⟩⟩; refine ⟨_, rfl, ?_⟩) | (go_at_call 17; (with_reducible refine (spec_l01Points.calls k a0 _ _ l1 true true _ ?side1 ?side2 A8.out).mono ?_); (case side1 => exact cs (HR1.out)); (case side2 => exact HC1.out); rintro e w' ⟨rfl, ⟨nd, rfl⟩⟩) | (go_at_call 17; (with_reducible refine (spec_l01Points.calls k a0 _ _ l2 false true _ ?side1 ?side2 A10.out).mono ?_); (case side1 => exact cs (HR2.out)); (case side2 => exact HC2.out); rintro e w' ⟨rfl, ⟨nd, rfl⟩⟩) | ((with_reducible refine gate_callee (f := 18) rfl ?_); refine goesM_ (some 38) rfl rfl Try.func18 #[.int .i64 a0, .slice A1 l1.length c1, .slice A2 l2.length c2] rfl ?_; (with_reducible refine (spec_l01Interpolate.calls k a0 _ _ l1 _ _ l2 t179 _ ?side1 ?side2 ?side3 ?side4 A12.out).mono ?_); (case side1 => exact cs (HR1.out)); (case side2 => exact HC1.out); (case side3 => exact cs (HR2.out)); (case side4 => exact HC2.out); rintro e w13 ⟨v180, rfl, ho0, hb⟩; refine ⟨_, rfl, ?_⟩; have n0_ := as0 (Kd.R_lower ho0 (below_size (bs HB))); have n1_ := as0 (below_step (bs HB) hb); clear HB; have HO181 := n0_; have HB := n1_; clear n0_ n1_; (try clear hb); (try clear hb2); (try clear hk); (try clear hi); (try clear ho0)))
      go_ret2
      exact ⟨_, er_, rs HO181, bs HB⟩
     ·
      replace c11 := Bool.eq_false_iff.mpr c11
      subst c11
      have H1 : (some (([] : List Int), 2)) = some (r1, r2) := by rw [if_neg (show ¬ (false = true) by decide)] at H; exact H
      clear H
      have H := H1
      clear H1
      simp only [Option.some.injEq, Prod.mk.injEq] at H
      obtain ⟨rfl, rfl⟩ := H
      go_enter Try.func5, Try.ntmps5
      go_wp2_with (first | ((with_reducible refine gate_callee (f := 16) rfl ?_); refine goesM_ (some 9) rfl rfl Try.func16 #[.int .i64 a0] rfl ?_; (with_reducible refine (spec_l01Prime.calls k a0 true _ A4.out).mono ?_); rintro e w' ⟨rfl, ⟨nd, rfl⟩⟩; refine ⟨_, rfl, ?_⟩) | (go_at_call 17; (with_reducible refine (spec_l01Points.calls k a0 _ _ l1 true true _ ?side1 ?side2 A8.out).mono ?_); (case side1 => exact cs (HR1.out)); (case side2 => exact HC1.out); rintro e w' ⟨rfl, ⟨nd, rfl⟩⟩) | (go_at_call 17; (with_reducible refine (spec_l01Points.calls k a0 _ _ l2 false false _ ?side1 ?side2 A10.out).mono ?_); (case side1 => exact cs (HR2.out)); (case side2 => exact HC2.out); rintro e w' ⟨rfl, ⟨nd, rfl⟩⟩))
      go_ret2
      exact ⟨_, er_, by first | exact Kd.R_nil _ _ _ _ _ | exact Kd.N_nil _ _ _ _ _ | exact Kd.V_nil _ _ _ _ _ | exact Kd.Q_nil _ _ _ _ _ | exact Kd.S_nil _ _ _ _ _, bs HB⟩
    ·
     replace c9 := Bool.eq_false_iff.mpr c9
     subst c9
     have H1 : (some (([] : List Int), 2)) = some (r1, r2) := by rw [if_neg (show ¬ (false = true) by decide)] at H; exact H
     clear H
     have H := H1
     clear H1
     simp only [Option.some.injEq, Prod.mk.injEq] at H
     obtain ⟨rfl, rfl⟩ := H
     go_enter Try.func5, Try.ntmps5
     go_wp2_with (first | ((with_reducible refine gate_callee (f := 16) rfl ?_); refine goesM_ (some 9) rfl rfl Try.func16 #[.int .i64 a0] rfl ?_; (with_reducible refine (spec_l01Prime.calls k a0 true _ A4.out).mono ?_); rintro e w' ⟨rfl, ⟨nd, rfl⟩⟩; refine ⟨_, rfl, ?_⟩) | (go_at_call 17; (with_reducible refine (spec_l01Points.calls k a0 _ _ l1 true false _ ?side1 ?side2 A8.out).mono ?_); (case side1 => exact cs (HR1.out)); (case side2 => exact HC1.out); rintro e w' ⟨rfl, ⟨nd, rfl⟩⟩))
     go_ret2
     exact ⟨_, er_, by first | exact Kd.R_nil _ _ _ _ _ | exact Kd.N_nil _ _ _ _ _ | exact Kd.V_nil _ _ _ _ _ | exact Kd.Q_nil _ _ _ _ _ | exact Kd.S_nil _ _ _ _ _, bs HB⟩
   ·
    rw [if_neg c7] at H
    have c7b0 : ((l2.length : Int) == (l1.length : Int)) = false := beq_eq_false_iff_ne.mpr c7
    have c7b1 : ((l2.length : Int) != (l1.length : Int)) = true := bne_iff_ne.mpr c7
    have c7b2 : (l2.length == l1.length) = false := by first | simpa using c7 | (simp at c7 ⊢; omega)
    simp only [Option.some.injEq, Prod.mk.injEq] at H
    obtain ⟨rfl, rfl⟩ := H
    go_enter Try.func5, Try.ntmps5
    go_wp2_with (first | ((with_reducible refine gate_callee (f := 16) rfl ?_); refine goesM_ (some 9) rfl rfl Try.func16 #[.int .i64 a0] rfl ?_; (with_reducible refine (spec_l01Prime.calls k a0 true _ A4.out).mono ?_); rintro e w' ⟨rfl, ⟨nd, rfl⟩⟩; refine ⟨_, rfl, ?_⟩))
    go_ret2
    exact ⟨_, er_, by first | exact Kd.R_nil _ _ _ _ _ | exact Kd.N_nil _ _ _ _ _ | exact Kd.V_nil _ _ _ _ _ | exact Kd.Q_nil _ _ _ _ _ | exact Kd.S_nil _ _ _ _ _, bs HB⟩
 ·
  replace c5 := Bool.eq_false_iff.mpr c5
  subst c5
  have H1 : (some (([] : List Int), 2)) = some (r1, r2) := by rw [if_neg (show ¬ (false = true) by decide)] at H; exact H
  clear H
  have H := H1
  clear H1
  simp only [Option.some.injEq, Prod.mk.injEq] at H
  obtain ⟨rfl, rfl⟩ := H
  go_enter Try.func5, Try.ntmps5
  go_wp2_with (first | ((with_reducible refine gate_callee (f := 16) rfl ?_); refine goesM_ (some 9) rfl rfl Try.func16 #[.int .i64 a0] rfl ?_; (with_reducible refine (spec_l01Prime.calls k a0 false _ A4.out).mono ?_); rintro e w' ⟨rfl, ⟨nd, rfl⟩⟩; refine ⟨_, rfl, ?_⟩))
  go_ret2
  exact ⟨_, er_, by first | exact Kd.R_nil _ _ _ _ _ | exact Kd.N_nil _ _ _ _ _ | exact Kd.V_nil _ _ _ _ _ | exact Kd.Q_nil _ _ _ _ _ | exact Kd.S_nil _ _ _ _ _, bs HB⟩
end Go.Proofs.Ytnigpjcnffgfgaa.H
