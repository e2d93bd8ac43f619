/- Joined texts of a claim: the printed functions and what is proved of them. -/
import Derived.Test.YtlcbcbnnphehnaaHx0
import Derived.Test.YtlcbcbnnphehnaaMabcdef3
import Derived.Test.YtlcbcbnnphehnaaMabcdef2
import Derived.Test.YtlcbcbnnphehnaaMabcdef1
-- written by wip/drive.py (the session's own program) over the translation; Lean checks it
namespace Go.Proofs.Ytlcbcbnnphehnaa.H
open Go.RowKit Go.Proofs.YtlcbcbnnphehnaaW.PrintWords Go.Proofs.YtlcbcbnnphehnaaW.PrintLast Go.Proofs.YtlcbcbnnphehnaaW.PrintMore
attribute [local go_sem] max2_int min2_int max_two min_two max_three min_three max_four min_four   -- for this text's walks alone
set_option linter.unusedVariables false
set_option linter.unusedSimpArgs false

/-! ### impl_field_power: function 67 -/
def impl_field_power.l0 : Nat → Int → Int → Int → Int → Option (Int)
  | 0, _, _, _, _ => none
  | k + 1, x0, x1, x2, x7 => if x2 > 0 then (if (Int.tmod x2 2) = 1 then ((impl_field_mul.f x0 x7 x1).bind fun t329 => ((impl_field_mul.f x0 x1 x1).bind fun t330 => (impl_field_power.l0 k x0 t330 (wrap64 (Int.tdiv x2 2)) t329))) else ((impl_field_mul.f x0 x1 x1).bind fun t331 => (impl_field_power.l0 k x0 t331 (wrap64 (Int.tdiv x2 2)) x7))) else (some x7)
def impl_field_power.f (k : Nat) (a0 : Int) (a1 : Int) (a2 : Int) : Option (Int) := (impl_field_mod.f a0 1).bind fun t328 => (impl_field_power.l0 k a0 a1 a2 t328)
theorem impl_field_power.mono_l : ∀ k, (∀ y0 y1 y2 y3, LeO (impl_field_power.l0 k y0 y1 y2 y3) (impl_field_power.l0 (k + 1) y0 y1 y2 y3))
  | 0 => fun _ _ _ _ r h => by simp [impl_field_power.l0] at h
  | k + 1 => by
    have ih0 := impl_field_power.mono_l k
    · intro y0 y1 y2 y3
      unfold impl_field_power.l0
      repeat' first
      | (with_reducible exact ih0 _ _ _ _)
      | (with_reducible exact LeO.refl _)
      | (with_reducible exact LeO.none _)
      | (with_reducible refine LeO.ite ?_ ?_)
      | (with_reducible refine LeO.bind ?_ (fun _ => ?_))
      | exact ih0 _ _ _ _
      | exact LeO.none _
      | refine LeO.ite ?_ ?_
      | refine LeO.bind ?_ (fun _ => ?_)
theorem impl_field_power.mono : ∀ a0 a1 a2 k, LeO (impl_field_power.f k a0 a1 a2) (impl_field_power.f (k + 1) a0 a1 a2) := by
  intro a0 a1 a2 k
  have ih0 := impl_field_power.mono_l k
  unfold impl_field_power.f
  repeat' first
      | (with_reducible exact ih0 _ _ _ _)
      | (with_reducible exact LeO.refl _)
      | (with_reducible exact LeO.none _)
      | (with_reducible refine LeO.ite ?_ ?_)
      | (with_reducible refine LeO.bind ?_ (fun _ => ?_))
      | exact ih0 _ _ _ _
      | exact LeO.none _
      | refine LeO.ite ?_ ?_
      | refine LeO.bind ?_ (fun _ => ?_)
set_option maxHeartbeats 8000000 in
set_option maxRecDepth 100000 in
theorem impl_field_power.calls (k : Nat) (a0 : Int) (a1 : Int) (a2 : Int) (r : Int) (w : World) (h : impl_field_power.f k a0 a1 a2 = some r) :
    Calls Try.prog 67 #[.int .i64 a0, .int .i64 a1, .int .i64 a2] w fun e w' => e = .returned (.int .i64 r) ∧ Drawn0 w w' := by
  have H : ((impl_field_mod.f a0 1).bind fun t328 => (impl_field_power.l0 k a0 a1 a2 t328)) = some r := h
  clear h
  replace H := Option.bind_eq_some_iff.mp H
  obtain ⟨t328, A40, H⟩ := H
  replace H : (impl_field_power.l0 k a0 a1 a2 t328) = some r := H
  have A4 := Aside0.mk A40
  clear A40
  have H' := Aside0.mk H
  clear H
  go_enter Try.func67, Try.ntmps67
  go_wp2_with (first | ((with_reducible refine gate_callee (f := 54) rfl ?_); refine goesL_ (some 9) rfl rfl Try.func54 (by kernel_rfl) rfl #[.int .i64 a0, .int .i64 1] rfl (by (try simp only [List.map_toArray, List.map_cons, List.map_nil]); first | done | rfl | (simp only [List.length_drop, List.length_take]; rfl)) ?_; (with_reducible refine (impl_field_mod.calls a0 1 t328 _ A4.out).mono ?_); rintro e w' ⟨rfl, ⟨nd, rfl⟩⟩; refine ⟨_, rfl, ?_⟩))
  go_loopg [1, 2, 7] k (fun kq v1 v2 v7 w' => ∃ (x1_1 : Int) (x2_1 : Int) (x7_1 : Int), v1 = .int .i64 x1_1 ∧ v2 = .int .i64 x2_1 ∧ v7 = .int .i64 x7_1 ∧ Aside0 (impl_field_power.l0 kq a0 x1_1 x2_1 x7_1 = some r) ∧ Aside0 (kq ≤ k) ∧ Drawn0 w w')
  case atStart => exact ⟨(a1), (a2), (t328), (by first | rfl | (simp; done) | (simp [*]; done)), (by first | rfl | (simp; done) | (simp [*]; done)), (by first | rfl | (simp; done) | (simp [*]; done)), H', ⟨Nat.le_refl _⟩, by repeat (first | exact Drawn0.refl _ | apply Drawn0.step)⟩
  case round =>
    clear H'
    try clear p2
    obtain ⟨x1_1, x2_1, x7_1, rfl, rfl, rfl, HA, HK1, ⟨m1, rfl⟩⟩ := hrel
    cases gk with
    | zero => exact absurd HA.out (by simp [impl_field_power.l0])
    | succ k1 =>
      have H := HA.out
      clear HA
      simp only [impl_field_power.l0] at H
      by_cases c5 : x2_1 > 0
      · rw [if_pos c5] at H
        have c5b0 : decide (0 < x2_1) = true := decide_eq_true c5
        clear c5
        by_cases c6 : (Int.tmod x2_1 2) = 1
        · rw [if_pos c6] at H
          have c6b0 : ((Int.tmod x2_1 2) == 1) = true := beq_iff_eq.mpr c6
          have c6b1 : ((Int.tmod x2_1 2) != 1) = false := bne_eq_false_iff_eq.mpr c6
          clear c6
          replace H := Option.bind_eq_some_iff.mp H
          obtain ⟨t329, A70, H⟩ := H
          replace H : ((impl_field_mul.f a0 x1_1 x1_1).bind fun t330 => (impl_field_power.l0 k1 a0 t330 (wrap64 (Int.tdiv x2_1 2)) t329)) = some r := H
          have A7 := Aside0.mk A70
          clear A70
          replace H := Option.bind_eq_some_iff.mp H
          obtain ⟨t330, A80, H⟩ := H
          replace H : (impl_field_power.l0 k1 a0 t330 (wrap64 (Int.tdiv x2_1 2)) t329) = some r := H
          have A8 := Aside0.mk A80
          clear A80
          have H' := Aside0.mk H
          clear H
          go_wp2_with (first | ((with_reducible refine gate_callee (f := 51) rfl ?_); refine goesL_ (some 20) rfl rfl Try.func51 (by kernel_rfl) rfl #[.int .i64 a0, .int .i64 x7_1, .int .i64 x1_1] rfl (by (try simp only [List.map_toArray, List.map_cons, List.map_nil]); first | done | rfl | (simp only [List.length_drop, List.length_take]; rfl)) ?_; (with_reducible refine (impl_field_mul.calls a0 x7_1 x1_1 t329 _ A7.out).mono ?_); rintro e w' ⟨rfl, ⟨nd, rfl⟩⟩; refine ⟨_, rfl, ?_⟩) | ((with_reducible refine gate_callee (f := 51) rfl ?_); refine goesL_ (some 24) rfl rfl Try.func51 (by kernel_rfl) rfl #[.int .i64 a0, .int .i64 x1_1, .int .i64 x1_1] rfl (by (try simp only [List.map_toArray, List.map_cons, List.map_nil]); first | done | rfl | (simp only [List.length_drop, List.length_take]; rfl)) ?_; (with_reducible refine (impl_field_mul.calls a0 x1_1 x1_1 t330 _ A8.out).mono ?_); rintro e w' ⟨rfl, ⟨nd, rfl⟩⟩; refine ⟨_, rfl, ?_⟩))
          go_roundg k1
          case measure => have := HK1.out; omega
          case rel => exact ⟨(t330), (wrap64 (Int.tdiv x2_1 2)), (t329), (by first | rfl | (simp; done) | (simp [*]; done)), (by first | rfl | (simp; done) | (simp [*]; done)), (by first | rfl | (simp; done) | (simp [*]; done)), H', ⟨by have := HK1.out; omega⟩, by repeat (first | exact Drawn0.refl _ | apply Drawn0.step)⟩
        · rw [if_neg c6] at H
          have c6b0 : ((Int.tmod x2_1 2) == 1) = false := beq_eq_false_iff_ne.mpr c6
          have c6b1 : ((Int.tmod x2_1 2) != 1) = true := bne_iff_ne.mpr c6
          replace H := Option.bind_eq_some_iff.mp H
          obtain ⟨t331, A90, H⟩ := H
          replace H : (impl_field_power.l0 k1 a0 t331 (wrap64 (Int.tdiv x2_1 2)) x7_1) = some r := H
          have A9 := Aside0.mk A90
          clear A90
          have H' := Aside0.mk H
          clear H
          go_wp2_with (first | ((with_reducible refine gate_callee (f := 51) rfl ?_); refine goesL_ (some 24) rfl rfl Try.func51 (by kernel_rfl) rfl #[.int .i64 a0, .int .i64 x1_1, .int .i64 x1_1] rfl (by (try simp only [List.map_toArray, List.map_cons, List.map_nil]); first | done | rfl | (simp only [List.length_drop, List.length_take]; rfl)) ?_; (with_reducible refine (impl_field_mul.calls a0 x1_1 x1_1 t331 _ A9.out).mono ?_); rintro e w' ⟨rfl, ⟨nd, rfl⟩⟩; refine ⟨_, rfl, ?_⟩))
          go_roundg k1
          case measure => have := HK1.out; omega
          case rel => exact ⟨(t331), (wrap64 (Int.tdiv x2_1 2)), (x7_1), (by first | rfl | (simp; done) | (simp [*]; done)), (by first | rfl | (simp; done) | (simp [*]; done)), (by first | rfl | (simp; done) | (simp [*]; done)), H', ⟨by have := HK1.out; omega⟩, by repeat (first | exact Drawn0.refl _ | apply Drawn0.step)⟩
      · rw [if_neg c5] at H
        have c5b0 : decide (0 < x2_1) = false := decide_eq_false c5
        clear c5
        obtain rfl := Option.some.inj H
        go_wp2
        go_ret
        exact ⟨by first | rfl | (simp; done) | (simp [*]; done), by repeat (first | exact Drawn0.refl _ | apply Drawn0.step)⟩

end Go.Proofs.Ytlcbcbnnphehnaa.H
-- written by wip/drive.py (the session's own program) over the translation; Lean checks it
namespace Go.Proofs.Ytlcbcbnnphehnaa.H
open Go.RowKit Go.Proofs.YtlcbcbnnphehnaaW.PrintWords Go.Proofs.YtlcbcbnnphehnaaW.PrintLast Go.Proofs.YtlcbcbnnphehnaaW.PrintMore
attribute [local go_sem] max2_int min2_int max_two min_two max_three min_three max_four min_four   -- for this text's walks alone
set_option linter.unusedVariables false
set_option linter.unusedSimpArgs false

/-! ### spec_l01Inverse: function 55 -/
def spec_l01Inverse.f (k : Nat) (a0 : Int) (a1 : Int) : Option (Int) := (spec_l01Power.f k a0 a1 (wrap64 (a0 - 2))).bind fun t306 => (some t306)
theorem spec_l01Inverse.mono : ∀ a0 a1 k, LeO (spec_l01Inverse.f k a0 a1) (spec_l01Inverse.f (k + 1) a0 a1) := by
  intro a0 a1 k
  unfold spec_l01Inverse.f
  repeat' first
      | (with_reducible exact spec_l01Power.mono _ _ _ _)
      | (with_reducible exact LeO.refl _)
      | (with_reducible exact LeO.none _)
      | (with_reducible refine LeO.ite ?_ ?_)
      | (with_reducible refine LeO.bind ?_ (fun _ => ?_))
      | exact spec_l01Power.mono _ _ _ _
      | exact LeO.none _
      | refine LeO.ite ?_ ?_
      | refine LeO.bind ?_ (fun _ => ?_)
set_option maxHeartbeats 8000000 in
set_option maxRecDepth 100000 in
theorem spec_l01Inverse.calls (k : Nat) (a0 : Int) (a1 : Int) (r : Int) (w : World) (h : spec_l01Inverse.f k a0 a1 = some r) :
    Calls Try.prog 55 #[.int .i64 a0, .int .i64 a1] w fun e w' => e = .returned (.int .i64 r) ∧ Drawn0 w w' := by
  have H : ((spec_l01Power.f k a0 a1 (wrap64 (a0 - 2))).bind fun t306 => (some t306)) = some r := h
  clear h
  replace H := Option.bind_eq_some_iff.mp H
  obtain ⟨t306, A30, H⟩ := H
  replace H : (some t306) = some r := H
  have A3 := Aside0.mk A30
  clear A30
  obtain rfl := Option.some.inj H
  go_enter Try.func55, Try.ntmps55
  go_wp2_with (first | ((with_reducible refine gate_callee (f := 66) rfl ?_); refine goesL_ (some 9) rfl rfl Try.func66 (by kernel_rfl) rfl #[.int .i64 a0, .int .i64 a1, .int .i64 (wrap64 (a0 - 2))] rfl (by (try simp only [List.map_toArray, List.map_cons, List.map_nil]); first | done | rfl | (simp only [List.length_drop, List.length_take]; rfl)) ?_; (with_reducible refine (spec_l01Power.calls k a0 a1 (wrap64 (a0 - 2)) t306 _ A3.out).mono ?_); rintro e w' ⟨rfl, ⟨nd, rfl⟩⟩; refine ⟨_, rfl, ?_⟩))
  go_ret
  exact ⟨by first | rfl | (simp; done) | (simp [*]; done), by repeat (first | exact Drawn0.refl _ | apply Drawn0.step)⟩

end Go.Proofs.Ytlcbcbnnphehnaa.H
-- written by wip/drive.py (the session's own program) over the translation; Lean checks it
namespace Go.Proofs.Ytlcbcbnnphehnaa.H
open Go.RowKit Go.Proofs.YtlcbcbnnphehnaaW.PrintWords Go.Proofs.YtlcbcbnnphehnaaW.PrintLast Go.Proofs.YtlcbcbnnphehnaaW.PrintMore
attribute [local go_sem] max2_int min2_int max_two min_two max_three min_three max_four min_four   -- for this text's walks alone
set_option linter.unusedVariables false
set_option linter.unusedSimpArgs false

/-! ### impl_field_inverse: function 57 -/
def impl_field_inverse.f (k : Nat) (a0 : Int) (a1 : Int) : Option (Int) := (impl_field_power.f k a0 a1 (wrap64 (a0 - 2))).bind fun t332 => (some t332)
theorem impl_field_inverse.mono : ∀ a0 a1 k, LeO (impl_field_inverse.f k a0 a1) (impl_field_inverse.f (k + 1) a0 a1) := by
  intro a0 a1 k
  unfold impl_field_inverse.f
  repeat' first
      | (with_reducible exact impl_field_power.mono _ _ _ _)
      | (with_reducible exact LeO.refl _)
      | (with_reducible exact LeO.none _)
      | (with_reducible refine LeO.ite ?_ ?_)
      | (with_reducible refine LeO.bind ?_ (fun _ => ?_))
      | exact impl_field_power.mono _ _ _ _
      | exact LeO.none _
      | refine LeO.ite ?_ ?_
      | refine LeO.bind ?_ (fun _ => ?_)
set_option maxHeartbeats 8000000 in
set_option maxRecDepth 100000 in
theorem impl_field_inverse.calls (k : Nat) (a0 : Int) (a1 : Int) (r : Int) (w : World) (h : impl_field_inverse.f k a0 a1 = some r) :
    Calls Try.prog 57 #[.int .i64 a0, .int .i64 a1] w fun e w' => e = .returned (.int .i64 r) ∧ Drawn0 w w' := by
  have H : ((impl_field_power.f k a0 a1 (wrap64 (a0 - 2))).bind fun t332 => (some t332)) = some r := h
  clear h
  replace H := Option.bind_eq_some_iff.mp H
  obtain ⟨t332, A30, H⟩ := H
  replace H : (some t332) = some r := H
  have A3 := Aside0.mk A30
  clear A30
  obtain rfl := Option.some.inj H
  go_enter Try.func57, Try.ntmps57
  go_wp2_with (first | ((with_reducible refine gate_callee (f := 67) rfl ?_); refine goesL_ (some 9) rfl rfl Try.func67 (by kernel_rfl) rfl #[.int .i64 a0, .int .i64 a1, .int .i64 (wrap64 (a0 - 2))] rfl (by (try simp only [List.map_toArray, List.map_cons, List.map_nil]); first | done | rfl | (simp only [List.length_drop, List.length_take]; rfl)) ?_; (with_reducible refine (impl_field_power.calls k a0 a1 (wrap64 (a0 - 2)) t332 _ A3.out).mono ?_); rintro e w' ⟨rfl, ⟨nd, rfl⟩⟩; refine ⟨_, rfl, ?_⟩))
  go_ret
  exact ⟨by first | rfl | (simp; done) | (simp [*]; done), by repeat (first | exact Drawn0.refl _ | apply Drawn0.step)⟩

end Go.Proofs.Ytlcbcbnnphehnaa.H
-- written by wip/drive.py (the session's own program) over the translation; Lean checks it
namespace Go.Proofs.Ytlcbcbnnphehnaa.H
open Go.RowKit Go.Proofs.YtlcbcbnnphehnaaW.PrintWords Go.Proofs.YtlcbcbnnphehnaaW.PrintLast Go.Proofs.YtlcbcbnnphehnaaW.PrintMore
attribute [local go_sem] max2_int min2_int max_two min_two max_three min_three max_four min_four   -- for this text's walks alone
set_option linter.unusedVariables false
set_option linter.unusedSimpArgs false

/-! ### spec_l01Code: function 28 -/
def spec_l01Code.l0 : Nat → Int → List (List Int) → Int → Option (Int)
  | 0, _, _, _ => none
  | k + 1, x0, x1, x5 => if x5 < (x1.length : Int) then (if 0 ≤ x5 then ((spec_l01Poly.f k x0 (rd_L1 x1 x5)).bind fun t126 => (if t126 = true then (spec_l01Code.l0 k x0 x1 (wrap64 (x5 + 1))) else (some 1))) else (none)) else ((spec_l01Prime.f k x0).bind fun t127 => (if t127 = true then (some 0) else (some 2)))
def spec_l01Code.f (k : Nat) (a0 : Int) (l1 : List (List Int)) : Option (Int) := spec_l01Code.l0 k a0 l1 0
theorem spec_l01Code.mono_l : ∀ k, (∀ y0 y1 y2, LeO (spec_l01Code.l0 k y0 y1 y2) (spec_l01Code.l0 (k + 1) y0 y1 y2))
  | 0 => fun _ _ _ r h => by simp [spec_l01Code.l0] at h
  | k + 1 => by
    have ih0 := spec_l01Code.mono_l k
    · intro y0 y1 y2
      unfold spec_l01Code.l0
      repeat' first
      | (with_reducible exact ih0 _ _ _)
      | (with_reducible exact spec_l01Poly.mono _ _ _)
      | (with_reducible exact spec_l01Prime.mono _ _)
      | (with_reducible exact LeO.refl _)
      | (with_reducible exact LeO.none _)
      | (with_reducible refine LeO.ite ?_ ?_)
      | (with_reducible refine LeO.bind ?_ (fun _ => ?_))
      | exact ih0 _ _ _
      | exact spec_l01Poly.mono _ _ _
      | exact spec_l01Prime.mono _ _
      | exact LeO.none _
      | refine LeO.ite ?_ ?_
      | refine LeO.bind ?_ (fun _ => ?_)
theorem spec_l01Code.mono : ∀ a0 a1 k, LeO (spec_l01Code.f k a0 a1) (spec_l01Code.f (k + 1) a0 a1) := by
  intro a0 a1 k
  have ih0 := spec_l01Code.mono_l k
  unfold spec_l01Code.f
  repeat' first
      | (with_reducible exact ih0 _ _ _)
      | (with_reducible exact spec_l01Poly.mono _ _ _)
      | (with_reducible exact spec_l01Prime.mono _ _)
      | (with_reducible exact LeO.refl _)
      | (with_reducible exact LeO.none _)
      | (with_reducible refine LeO.ite ?_ ?_)
      | (with_reducible refine LeO.bind ?_ (fun _ => ?_))
      | exact ih0 _ _ _
      | exact spec_l01Poly.mono _ _ _
      | exact spec_l01Prime.mono _ _
      | exact LeO.none _
      | refine LeO.ite ?_ ?_
      | refine LeO.bind ?_ (fun _ => ?_)
set_option maxHeartbeats 8000000 in
set_option maxRecDepth 100000 in
theorem spec_l01Code.calls (k : Nat) (a0 : Int) (A1 : Option Addr) (c1 : Nat) (l1 : List (List Int)) (r : Int) (w : World) (hr1 : Kd.C (Kd.slice 2 (Kd.int .i64)) w A1 l1.length l1) (hc1 : l1.length ≤ c1) (h : spec_l01Code.f k a0 l1 = some r) :
    Calls Try.prog 28 #[.int .i64 a0, .slice A1 l1.length c1] w fun e w' => e = .returned (.int .i64 r) ∧ Drawn0 w w' := by
  have HR1 := Aside0.mk hr1
  have HC1 := Aside0.mk hc1
  clear hr1 hc1
  have H : (spec_l01Code.l0 k a0 l1 0) = some r := h
  clear h
  have H' := Aside0.mk H
  clear H
  go_enter Try.func28, Try.ntmps28
  go_wp2
  go_loopg [5] k (fun kq v5 w' => ∃ (x5_1 : Int), v5 = .int .i64 x5_1 ∧ Aside0 (spec_l01Code.l0 kq a0 l1 x5_1 = some r) ∧ Aside0 (kq ≤ k) ∧ Drawn0 w w')
  case atStart => exact ⟨(0), (by first | rfl | (simp; done) | (simp [*]; done)), H', ⟨Nat.le_refl _⟩, by repeat (first | exact Drawn0.refl _ | apply Drawn0.step)⟩
  case round =>
    clear H'
    try clear c1
    try clear c2
    try clear p2
    obtain ⟨x5_1, rfl, HA, HK1, ⟨m1, rfl⟩⟩ := hrel
    cases gk with
    | zero => exact absurd HA.out (by simp [spec_l01Code.l0])
    | succ k1 =>
      have H := HA.out
      clear HA
      simp only [spec_l01Code.l0] at H
      by_cases c3 : x5_1 < (l1.length : Int)
      · rw [if_pos c3] at H
        have c3b0 : decide (x5_1 < (l1.length : Int)) = true := decide_eq_true c3
        clear c3
        by_cases c4 : 0 ≤ x5_1
        · rw [if_pos c4] at H
          have c4b0 : decide (0 ≤ x5_1) = true := decide_eq_true c4
          clear c4
          replace H := Option.bind_eq_some_iff.mp H
          obtain ⟨t126, A50, H⟩ := H
          replace H : (if t126 = true then (spec_l01Code.l0 k1 a0 l1 (wrap64 (x5_1 + 1))) else (some 1)) = some r := H
          have A5 := Aside0.mk A50
          clear A50
          by_cases c6 : t126 = true
          · subst c6
            have H1 : (spec_l01Code.l0 k1 a0 l1 (wrap64 (x5_1 + 1))) = some r := by rw [if_pos rfl] at H; exact H
            clear H
            have H := H1
            clear H1
            have H' := Aside0.mk H
            clear H
            have p125 : 0 ≤ (x5_1 : Int) := of_decide_eq_true (by first | (with_reducible assumption) | assumption)
            have q125 : x5_1 < (l1.length : Int) := of_decide_eq_true (by first | (with_reducible assumption) | assumption)
            obtain ⟨ad125, A125_0, c125_0, e125, hx125_0, hl125_0, hi125_0⟩ := at_L1 HR1.out x5_1 p125 q125
            cases e125
            have HR125_0 := Aside0.mk hi125_0
            have HC125_0 := Aside0.mk hl125_0
            clear hi125_0 hl125_0
            replace p125 := eq_true p125
            replace q125 := eq_true q125
            go_wp2_with (first | ((with_reducible refine gate_callee (f := 25) rfl ?_); refine goesL_ (some 17) rfl rfl Try.func25 (by kernel_rfl) rfl #[.int .i64 a0, .slice A125_0 (rd_L1 l1 x5_1).length c125_0] rfl (by (try simp only [List.map_toArray, List.map_cons, List.map_nil]); first | done | rfl | (simp only [List.length_drop, List.length_take]; rfl)) ?_; (with_reducible refine (spec_l01Poly.calls k1 a0 _ _ (rd_L1 l1 x5_1) true _ ?side1 ?side2 A5.out).mono ?_); (case side1 => repeat (first | exact HR125_0.out | (with_reducible refine Kd.C_alloc ?_ _) | (with_reducible refine Kd.C_drewN ?_ _) | (with_reducible refine Kd.C_drew ?_))); (case side2 => exact HC125_0.out); rintro e w' ⟨rfl, ⟨nd, rfl⟩⟩; refine ⟨_, rfl, ?_⟩))
            go_roundg k1
            case measure => have := HK1.out; omega
            case rel => exact ⟨(wrap64 (x5_1 + 1)), (by first | rfl | (simp; done) | (simp [*]; done)), H', ⟨by have := HK1.out; omega⟩, by repeat (first | exact Drawn0.refl _ | apply Drawn0.step)⟩
          · replace c6 := Bool.eq_false_iff.mpr c6
            subst c6
            have H1 : (some 1) = some r := by rw [if_neg (show ¬ (false = true) by decide)] at H; exact H
            clear H
            have H := H1
            clear H1
            obtain rfl := Option.some.inj H
            have p125 : 0 ≤ (x5_1 : Int) := of_decide_eq_true (by first | (with_reducible assumption) | assumption)
            have q125 : x5_1 < (l1.length : Int) := of_decide_eq_true (by first | (with_reducible assumption) | assumption)
            obtain ⟨ad125, A125_0, c125_0, e125, hx125_0, hl125_0, hi125_0⟩ := at_L1 HR1.out x5_1 p125 q125
            cases e125
            have HR125_0 := Aside0.mk hi125_0
            have HC125_0 := Aside0.mk hl125_0
            clear hi125_0 hl125_0
            replace p125 := eq_true p125
            replace q125 := eq_true q125
            go_wp2_with (first | ((with_reducible refine gate_callee (f := 25) rfl ?_); refine goesL_ (some 17) rfl rfl Try.func25 (by kernel_rfl) rfl #[.int .i64 a0, .slice A125_0 (rd_L1 l1 x5_1).length c125_0] rfl (by (try simp only [List.map_toArray, List.map_cons, List.map_nil]); first | done | rfl | (simp only [List.length_drop, List.length_take]; rfl)) ?_; (with_reducible refine (spec_l01Poly.calls k1 a0 _ _ (rd_L1 l1 x5_1) false _ ?side1 ?side2 A5.out).mono ?_); (case side1 => repeat (first | exact HR125_0.out | (with_reducible refine Kd.C_alloc ?_ _) | (with_reducible refine Kd.C_drewN ?_ _) | (with_reducible refine Kd.C_drew ?_))); (case side2 => exact HC125_0.out); rintro e w' ⟨rfl, ⟨nd, rfl⟩⟩; refine ⟨_, rfl, ?_⟩))
            go_ret
            exact ⟨by first | rfl | (simp; done) | (simp [*]; done), by repeat (first | exact Drawn0.refl _ | apply Drawn0.step)⟩
        · rw [if_neg c4] at H
          exact absurd H (by simp)
      · rw [if_neg c3] at H
        have c3b0 : decide (x5_1 < (l1.length : Int)) = false := decide_eq_false c3
        clear c3
        replace H := Option.bind_eq_some_iff.mp H
        obtain ⟨t127, A70, H⟩ := H
        replace H : (if t127 = true then (some 0) else (some 2)) = some r := H
        have A7 := Aside0.mk A70
        clear A70
        by_cases c8 : t127 = true
        · subst c8
          have H1 : (some 0) = some r := by rw [if_pos rfl] at H; exact H
          clear H
          have H := H1
          clear H1
          obtain rfl := Option.some.inj H
          go_wp2_with (first | ((with_reducible refine gate_callee (f := 46) rfl ?_); refine goesL_ (some 20) rfl rfl Try.func46 (by kernel_rfl) rfl #[.int .i64 a0] rfl (by (try simp only [List.map_toArray, List.map_cons, List.map_nil]); first | done | rfl | (simp only [List.length_drop, List.length_take]; rfl)) ?_; (with_reducible refine (spec_l01Prime.calls k1 a0 true _ A7.out).mono ?_); rintro e w' ⟨rfl, ⟨nd, rfl⟩⟩; refine ⟨_, rfl, ?_⟩))
          go_ret
          exact ⟨by first | rfl | (simp; done) | (simp [*]; done), by repeat (first | exact Drawn0.refl _ | apply Drawn0.step)⟩
        · replace c8 := Bool.eq_false_iff.mpr c8
          subst c8
          have H1 : (some 2) = some r := by rw [if_neg (show ¬ (false = true) by decide)] at H; exact H
          clear H
          have H := H1
          clear H1
          obtain rfl := Option.some.inj H
          go_wp2_with (first | ((with_reducible refine gate_callee (f := 46) rfl ?_); refine goesL_ (some 20) rfl rfl Try.func46 (by kernel_rfl) rfl #[.int .i64 a0] rfl (by (try simp only [List.map_toArray, List.map_cons, List.map_nil]); first | done | rfl | (simp only [List.length_drop, List.length_take]; rfl)) ?_; (with_reducible refine (spec_l01Prime.calls k1 a0 false _ A7.out).mono ?_); rintro e w' ⟨rfl, ⟨nd, rfl⟩⟩; refine ⟨_, rfl, ?_⟩))
          go_ret
          exact ⟨by first | rfl | (simp; done) | (simp [*]; done), by repeat (first | exact Drawn0.refl _ | apply Drawn0.step)⟩

end Go.Proofs.Ytlcbcbnnphehnaa.H
-- written by wip/drive.py (the session's own program) over the translation; Lean checks it
namespace Go.Proofs.Ytlcbcbnnphehnaa.H
open Go.RowKit Go.Proofs.YtlcbcbnnphehnaaW.PrintWords Go.Proofs.YtlcbcbnnphehnaaW.PrintLast Go.Proofs.YtlcbcbnnphehnaaW.PrintMore
attribute [local go_sem] max2_int min2_int max_two min_two max_three min_three max_four min_four   -- for this text's walks alone
set_option linter.unusedVariables false
set_option linter.unusedSimpArgs false

/-! ### impl_always: function 31 -/
def impl_always.f  : Option (Bool) := some true
set_option maxHeartbeats 8000000 in
set_option maxRecDepth 100000 in
theorem impl_always.calls  (r : Bool) (w : World) (h : impl_always.f  = some r) :
    Calls Try.prog 31 #[] w fun e w' => e = .returned (.bool r) ∧ Drawn0 w w' := by
  have H : (some true) = some r := h
  clear h
  obtain rfl := Option.some.inj H
  go_enter Try.func31, Try.ntmps31
  go_wp2
  go_ret
  exact ⟨by first | rfl | (simp; done) | (simp [*]; done), by repeat (first | exact Drawn0.refl _ | apply Drawn0.step)⟩

end Go.Proofs.Ytlcbcbnnphehnaa.H
-- written by wip/drive.py (the session's own program) over the translation; Lean checks it
namespace Go.Proofs.Ytlcbcbnnphehnaa.H
open Go.RowKit Go.Proofs.YtlcbcbnnphehnaaW.PrintWords Go.Proofs.YtlcbcbnnphehnaaW.PrintLast Go.Proofs.YtlcbcbnnphehnaaW.PrintMore
attribute [local go_sem] max2_int min2_int max_two min_two max_three min_three max_four min_four   -- for this text's walks alone
set_option linter.unusedVariables false
set_option linter.unusedSimpArgs false

/-! ### slices_IndexFunc_int64_int64_69: function 69 (by hand) -/
set_option maxHeartbeats 4000000 in
set_option maxRecDepth 100000 in
theorem indexFunc2_any (A : Option Addr) (n c : Nat) (q : Nat → Bool) (g : Nat) (lb : Array Value) (eg : ∀ args w, (callFunc g args).run Try.prog w = .ok (.enter g args) w) (w : World)
    (hn : n ≤ 9223372036854775807) (h : ∀ j, j < n → ∃ ad v, A = some ad ∧ w.cell? (ad.add j) = some v ∧ Gives g lb v (q j) w) :
    Calls Try.prog 69 #[.slice A n c, .func (.func g) #[] lb] w fun e w' => (∃ i : Int, e = .returned (.int .i64 i) ∧ (0 ≤ i ↔ ∃ j, j < n ∧ q j = true)) ∧ Below w.heap.size w w' := by
  have HH := Aside0.mk h
  clear h
  go_enter Try.func69, Try.ntmps69
  go_wp2
  go_loopg [5, 8] n (fun gg _ s8 wr => ∃ kk : Nat, kk ≤ n ∧ n - kk ≤ gg ∧ s8 = .int .i64 kk ∧ Aside0 (∀ j, j < kk → q j = false) ∧ Aside0 (Below w.heap.size w wr))
  case atStart => exact ⟨0, Nat.zero_le _, by omega, rfl, ⟨fun j hj => absurd hj (Nat.not_lt_zero _)⟩, ⟨Below.refl _ _⟩⟩
  case round =>
    obtain ⟨kk, hkk, hg, rfl, HA, HB⟩ := hrel
    by_cases hlt : kk < n
    · have hltz : (kk : Int) < (n : Int) := by omega
      obtain ⟨ad, v, rfl, hc, hcall⟩ := HH.out kk hlt
      have hcall' := hcall wr HB.out
      have hc' := pw_cell_below HB.out hc
      clear hcall hc
      cases hq : q kk with
      | true =>
        rw [hq] at hcall'
        have Hq := Aside0.mk hq
        clear hq HH
        go_wp2_with fail
        refine (hcall').mono ?_
        rintro e w' ⟨rfl, hb⟩
        have HB' := Aside0.mk (below_next HB.out hb)
        clear hcall' eg hb HB
        go_wp2
        go_ret
        exact ⟨⟨kk, rfl, by constructor; (intro _; exact ⟨kk, hlt, Hq.out⟩); (intro _; omega)⟩, HB'.out⟩
      | false =>
        rw [hq] at hcall'
        have Hq := Aside0.mk hq
        clear hq HH
        go_wp2_with fail
        refine (hcall').mono ?_
        rintro e w' ⟨rfl, hb⟩
        have HB' := Aside0.mk (below_next HB.out hb)
        clear hcall' eg hb HB
        go_wp2
        go_roundg (n - (kk + 1))
        case measure => omega
        case rel =>
          refine ⟨kk + 1, by omega, by omega, by go_num, ⟨fun j hj => ?_⟩, HB'⟩
          by_cases e : j = kk
          · subst e; exact Hq.out
          · exact HA.out j (by omega)
    · have hltz : ¬ (kk : Int) < (n : Int) := by omega
      have : kk = n := by omega
      subst this
      go_wp2
      go_ret
      refine ⟨⟨-1, rfl, ?_⟩, HB.out⟩
      constructor
      · intro h; omega
      · rintro ⟨j, hj, hq⟩
        rw [HA.out j hj] at hq
        cases hq


end Go.Proofs.Ytlcbcbnnphehnaa.H
-- written by wip/drive.py (the session's own program) over the translation; Lean checks it
namespace Go.Proofs.Ytlcbcbnnphehnaa.H
open Go.RowKit Go.Proofs.YtlcbcbnnphehnaaW.PrintWords Go.Proofs.YtlcbcbnnphehnaaW.PrintLast Go.Proofs.YtlcbcbnnphehnaaW.PrintMore
attribute [local go_sem] max2_int min2_int max_two min_two max_three min_three max_four min_four   -- for this text's walks alone
set_option linter.unusedVariables false
set_option linter.unusedSimpArgs false

/-! ### slices_ContainsFunc_int64_int64_63: function 63 (by hand) -/
set_option maxHeartbeats 4000000 in
set_option maxRecDepth 100000 in
theorem containsFunc2_any (A : Option Addr) (n c : Nat) (q : Nat → Bool) (r : Bool) (hr : r = true ↔ ∃ j, j < n ∧ q j = true) (g : Nat) (lb : Array Value) (eg : ∀ args w, (callFunc g args).run Try.prog w = .ok (.enter g args) w) (w : World)
    (hn : n ≤ 9223372036854775807) (h : ∀ j, j < n → ∃ ad v, A = some ad ∧ w.cell? (ad.add j) = some v ∧ Gives g lb v (q j) w) :
    Calls Try.prog 63 #[.slice A n c, .func (.func g) #[] lb] w fun e w' => e = .returned (.bool r) ∧ Below w.heap.size w w' := by
  have HC := indexFunc2_any A n c q g lb eg w hn h
  clear h eg
  have Hr := Aside0.mk hr
  clear hr
  cases r with
  | true =>
    have HC' : Calls Try.prog 69 #[.slice A n c, .func (.func g) #[] lb] w fun e w' => (∃ i : Int, e = .returned (.int .i64 i) ∧ 0 ≤ i) ∧ Below w.heap.size w w' :=
      HC.mono fun e w' ⟨⟨i, he, hi⟩, hd⟩ => ⟨⟨i, he, hi.2 (Hr.out.1 rfl)⟩, hd⟩
    clear HC
    go_enter Try.func63, Try.ntmps63
    go_wp2_with (go_at_call 69; refine HC'.mono ?_; rintro e w' ⟨⟨i, rfl, hi⟩, hb⟩)
    go_ret
    exact ⟨rfl, hb⟩
  | false =>
    have HC' : Calls Try.prog 69 #[.slice A n c, .func (.func g) #[] lb] w fun e w' => (∃ i : Int, e = .returned (.int .i64 i) ∧ i < 0) ∧ Below w.heap.size w w' :=
      HC.mono fun e w' ⟨⟨i, he, hi⟩, hd⟩ => ⟨⟨i, he, by
        rcases Int.lt_or_le i 0 with h | h
        · exact h
        · exact absurd (Hr.out.2 (hi.1 h)) (by simp)⟩, hd⟩
    clear HC
    go_enter Try.func63, Try.ntmps63
    go_wp2_with (go_at_call 69; refine HC'.mono ?_; rintro e w' ⟨⟨i, rfl, hi⟩, hb⟩)
    go_ret
    exact ⟨by have hn0 : ¬ 0 ≤ i := by omega
              simp [hn0], hb⟩


end Go.Proofs.Ytlcbcbnnphehnaa.H
-- written by wip/drive.py (the session's own program) over the translation; Lean checks it
namespace Go.Proofs.Ytlcbcbnnphehnaa.H
open Go.RowKit Go.Proofs.YtlcbcbnnphehnaaW.PrintWords Go.Proofs.YtlcbcbnnphehnaaW.PrintLast Go.Proofs.YtlcbcbnnphehnaaW.PrintMore
attribute [local go_sem] max2_int min2_int max_two min_two max_three min_three max_four min_four   -- for this text's walks alone
set_option linter.unusedVariables false
set_option linter.unusedSimpArgs false

/-! ### impl_areAll_int64_48: function 48 (by hand) -/
set_option maxHeartbeats 4000000 in
set_option maxRecDepth 100000 in
theorem notIs2_clos (v : Value) (r : Bool) (g : Nat) (lb : Array Value) (B : Nat) (eg : ∀ args w, (callFunc g args).run Try.prog w = .ok (.enter g args) w) (w : World)
    (hB : w.cell? ⟨B, 0, none⟩ = some (.func (.func g) #[] lb)) (h : Gives g lb v r w) :
    Gives 64 #[.pointer (some ⟨B, 0, none⟩)] v (!r) w := by
  intro W hW
  have hB' := (hW.cell (p := ⟨B, 0, none⟩) (World.block_lt_of_cell? w _ hB)).trans hB
  have h' := h W hW
  clear h hW hB
  show Calls Try.prog 64 #[v, .pointer (some ⟨B, 0, none⟩)] W _
  go_enter Try.func64, Try.ntmps64
  go_wp2_with fail
  refine h'.mono ?_
  rintro e w' ⟨rfl, hb⟩
  clear h' eg hB'
  go_wp2
  go_ret
  exact ⟨rfl, hb⟩
set_option maxHeartbeats 4000000 in
set_option maxRecDepth 100000 in
theorem areAll2_clos (A : Option Addr) (n c : Nat) (q : Nat → Bool) (r : Bool) (hr : r = true ↔ ∀ j, j < n → q j = true) (g : Nat) (lb : Array Value) (eg : ∀ args w, (callFunc g args).run Try.prog w = .ok (.enter g args) w) (w : World)
    (hn : n ≤ 9223372036854775807) (h : ∀ j, j < n → ∃ ad v, A = some ad ∧ w.cell? (ad.add j) = some v ∧ Gives g lb v (q j) w) :
    Calls Try.prog 48 #[.slice A n c, .func (.func g) #[] lb] w fun e w' => e = .returned (.bool r) ∧ Below w.heap.size w w' := by
  have ec : ∀ args w, (callFunc 64 args).run Try.prog w = .ok (.enter 64 args) w := enters_of Try.func64 (by kernel_rfl) rfl
  have hcell : (w.alloc (.cells #[.func (.func g) #[] lb] 53)).cell? ⟨w.heap.size, 0, none⟩ = some (.func (.func g) #[] lb) := by simp
  have hb : Below w.heap.size w (w.alloc (.cells #[.func (.func g) #[] lb] 53)) := (Below.refl _ w).alloc (Nat.le_refl _) _
  have HC := containsFunc2_any A n c (fun j => !(q j)) (!r) (by
      rw [Bool.not_eq_true']
      constructor
      · intro hf
        refine Classical.byContradiction fun hne => ?_
        have : r = true := hr.2 fun j hj => by
          cases hq : q j with
          | true => rfl
          | false => exact absurd ⟨j, hj, by simp [hq]⟩ hne
        rw [this] at hf; cases hf
      · rintro ⟨j, hj, hq⟩
        cases hr' : r with
        | false => rfl
        | true => have := hr.1 hr' j hj; rw [this] at hq; cases hq) 64 #[.pointer (some ⟨w.heap.size, 0, none⟩)] ec (w.alloc (.cells #[.func (.func g) #[] lb] 53)) hn
    (fun j hj => by
      obtain ⟨ad, v, rfl, hc, hg⟩ := h j hj
      exact ⟨ad, v, rfl, pw_cell_below hb hc, notIs2_clos v (q j) g lb w.heap.size eg _ hcell fun W hW => hg W (hb.trans (hW.mono (by simp)))⟩)
  clear h eg hcell ec hr
  go_enter Try.func48, Try.ntmps48
  go_wp2_with (go_at_call 63; refine HC.mono ?_; rintro e w' ⟨rfl, hb'⟩)
  go_ret
  exact ⟨by simp, hb.trans (hb'.mono (by simp))⟩

end Go.Proofs.Ytlcbcbnnphehnaa.H
