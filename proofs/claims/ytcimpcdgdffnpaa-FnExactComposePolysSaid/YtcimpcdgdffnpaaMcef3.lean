/- Joined texts of a claim: the printed functions and what is proved of them. -/
import Derived.Test.YtcimpcdgdffnpaaHx0
import Derived.Test.YtcimpcdgdffnpaaMabcdef3
import Derived.Test.YtcimpcdgdffnpaaMabcdef2
import Derived.Test.YtcimpcdgdffnpaaMabcdef10
import Derived.Test.YtcimpcdgdffnpaaMcef1
import Derived.Test.YtcimpcdgdffnpaaMcef2
-- written by wip/drive.py (the session's own program) over the translation; Lean checks it
namespace Go.Proofs.Ytcimpcdgdffnpaa.H
open Go.RowKit Go.Proofs.YtcimpcdgdffnpaaW.PrintWords Go.Proofs.YtcimpcdgdffnpaaW.PrintLast Go.Proofs.YtcimpcdgdffnpaaW.PrintMore
attribute [local go_sem] max2_int min2_int max_two min_two max_three min_three max_four min_four   -- for this text's walks alone
set_option linter.unusedVariables false
set_option linter.unusedSimpArgs false

/-! ### spec_l06Code: function 46 -/
def spec_l06Code.l0 : Nat → List (List Int) → Int → Option (Int)
  | 0, _, _ => none
  | k + 1, x1, x6 => if x6 < (x1.length : Int) then (if 0 ≤ x6 then (if ((rd_L1 x1 x6).length : Int) = 0 then (some 5) else (spec_l06Code.l0 k x1 (wrap64 (x6 + 1)))) else (none)) else (some 0)
def spec_l06Code.f (k : Nat) (a0 : Int) (l1 : List (List Int)) : Option (Int) := (spec_l01Code.f k a0 l1).bind fun t481 => (if t481 = 0 then (spec_l06Code.l0 k l1 0) else (some t481))
theorem spec_l06Code.mono_l : ∀ k, (∀ y0 y1, LeO (spec_l06Code.l0 k y0 y1) (spec_l06Code.l0 (k + 1) y0 y1))
  | 0 => fun _ _ r h => by simp [spec_l06Code.l0] at h
  | k + 1 => by
    have ih0 := spec_l06Code.mono_l k
    · intro y0 y1
      unfold spec_l06Code.l0
      repeat' first
      | (with_reducible exact ih0 _ _)
      | (with_reducible exact spec_l01Code.mono _ _ _)
      | (with_reducible exact LeO.refl _)
      | (with_reducible exact LeO.none _)
      | (with_reducible refine LeO.ite ?_ ?_)
      | (with_reducible refine LeO.bind ?_ (fun _ => ?_))
      | exact ih0 _ _
      | exact spec_l01Code.mono _ _ _
      | exact LeO.none _
      | refine LeO.ite ?_ ?_
      | refine LeO.bind ?_ (fun _ => ?_)
theorem spec_l06Code.mono : ∀ a0 a1 k, LeO (spec_l06Code.f k a0 a1) (spec_l06Code.f (k + 1) a0 a1) := by
  intro a0 a1 k
  have ih0 := spec_l06Code.mono_l k
  unfold spec_l06Code.f
  repeat' first
      | (with_reducible exact ih0 _ _)
      | (with_reducible exact spec_l01Code.mono _ _ _)
      | (with_reducible exact LeO.refl _)
      | (with_reducible exact LeO.none _)
      | (with_reducible refine LeO.ite ?_ ?_)
      | (with_reducible refine LeO.bind ?_ (fun _ => ?_))
      | exact ih0 _ _
      | exact spec_l01Code.mono _ _ _
      | exact LeO.none _
      | refine LeO.ite ?_ ?_
      | refine LeO.bind ?_ (fun _ => ?_)
set_option maxHeartbeats 8000000 in
set_option maxRecDepth 100000 in
theorem spec_l06Code.calls (k : Nat) (a0 : Int) (A1 : Option Addr) (c1 : Nat) (l1 : List (List Int)) (r : Int) (w : World) (hr1 : Kd.C (Kd.slice 2 (Kd.int .i64)) w A1 l1.length l1) (hc1 : l1.length ≤ c1) (h : spec_l06Code.f k a0 l1 = some r) :
    Calls Try.prog 46 #[.int .i64 a0, .slice A1 l1.length c1] w fun e w' => e = .returned (.int .i64 r) ∧ Drawn0 w w' := by
  have HR1 := Aside0.mk hr1
  have HC1 := Aside0.mk hc1
  clear hr1 hc1
  have H : ((spec_l01Code.f k a0 l1).bind fun t481 => (if t481 = 0 then (spec_l06Code.l0 k l1 0) else (some t481))) = some r := h
  clear h
  replace H := Option.bind_eq_some_iff.mp H
  obtain ⟨t481, A30, H⟩ := H
  have A3 := Aside0.mk A30
  clear A30
  by_cases c4 : t481 = 0
  · rw [if_pos c4] at H
    have c4b0 : (t481 == 0) = true := beq_iff_eq.mpr c4
    have c4b1 : (t481 != 0) = false := bne_eq_false_iff_eq.mpr c4
    clear c4
    have H' := Aside0.mk H
    clear H
    go_enter Try.func46, Try.ntmps46
    go_wp2_with (first | ((with_reducible refine gate_callee (f := 25) rfl ?_); refine goesM_ (some 9) rfl rfl Try.func25 #[.int .i64 a0, .slice A1 l1.length c1] rfl ?_; (with_reducible refine (spec_l01Code.calls k a0 _ _ l1 t481 _ ?side1 ?side2 A3.out).mono ?_); (case side1 => exact cs (HR1.out)); (case side2 => exact HC1.out); rintro e w' ⟨rfl, ⟨nd, rfl⟩⟩; refine ⟨_, rfl, ?_⟩))
    go_loopg [6] k (fun kq v6 w' => ∃ (x6_1 : Int), v6 = .int .i64 x6_1 ∧ Aside0 (spec_l06Code.l0 kq l1 x6_1 = some r) ∧ Aside0 (kq ≤ k) ∧ Drawn0 w w')
    case atStart => exact ⟨(0), ea_, H', ⟨Nat.le_refl _⟩, by repeat (first | exact Drawn0.refl _ | apply Drawn0.step)⟩
    case round =>
      clear H'
      try clear c1
      try clear c2
      try clear p2
      try clear c4
      try clear c4b0
      try clear c4b1
      obtain ⟨x6_1, rfl, HA, HK1, ⟨m1, rfl⟩⟩ := hrel
      cases gk with
      | zero => exact absurd HA.out (by simp [spec_l06Code.l0])
      | succ k1 =>
        have H := HA.out
        clear HA
        simp only [spec_l06Code.l0] at H
        by_cases c5 : x6_1 < (l1.length : Int)
        · rw [if_pos c5] at H
          have c5b0 : decide (x6_1 < (l1.length : Int)) = true := decide_eq_true c5
          clear c5
          by_cases c6 : 0 ≤ x6_1
          · rw [if_pos c6] at H
            have c6b0 : decide (0 ≤ x6_1) = true := decide_eq_true c6
            clear c6
            by_cases c7 : ((rd_L1 l1 x6_1).length : Int) = 0
            · rw [if_pos c7] at H
              have c7b0 : (((rd_L1 l1 x6_1).length : Int) == 0) = true := beq_iff_eq.mpr c7
              have c7b1 : (((rd_L1 l1 x6_1).length : Int) != 0) = false := bne_eq_false_iff_eq.mpr c7
              clear c7
              obtain rfl := Option.some.inj H
              have p482 : 0 ≤ (x6_1 : Int) := of_decide_eq_true (by first | (with_reducible assumption) | assumption)
              have q482 : x6_1 < (l1.length : Int) := of_decide_eq_true (by first | (with_reducible assumption) | assumption)
              obtain ⟨ad482, A482_0, c482_0, e482, hx482_0, hl482_0, hi482_0⟩ := at_L1 HR1.out x6_1 p482 q482
              cases e482
              have HR482_0 := Aside0.mk hi482_0
              have HC482_0 := Aside0.mk hl482_0
              clear hi482_0 hl482_0
              replace p482 := eq_true p482
              replace q482 := eq_true q482
              go_wp2
              go_ret
              exact ⟨by first | rfl | (simp; done) | (simp [*]; done), by repeat (first | exact Drawn0.refl _ | apply Drawn0.step)⟩
            · rw [if_neg c7] at H
              have c7b0 : (((rd_L1 l1 x6_1).length : Int) == 0) = false := beq_eq_false_iff_ne.mpr c7
              have c7b1 : (((rd_L1 l1 x6_1).length : Int) != 0) = true := bne_iff_ne.mpr c7
              have c7b2 : ¬ ((rd_L1 l1 x6_1) = []) := fun h_ => c7 (by rw [h_]; rfl)
              have H' := Aside0.mk H
              clear H
              have p482 : 0 ≤ (x6_1 : Int) := of_decide_eq_true (by first | (with_reducible assumption) | assumption)
              have q482 : x6_1 < (l1.length : Int) := of_decide_eq_true (by first | (with_reducible assumption) | assumption)
              obtain ⟨ad482, A482_0, c482_0, e482, hx482_0, hl482_0, hi482_0⟩ := at_L1 HR1.out x6_1 p482 q482
              cases e482
              have HR482_0 := Aside0.mk hi482_0
              have HC482_0 := Aside0.mk hl482_0
              clear hi482_0 hl482_0
              replace p482 := eq_true p482
              replace q482 := eq_true q482
              go_wp2
              go_roundg k1
              case measure => have := HK1.out; omega
              case rel => exact ⟨(wrap64 (x6_1 + 1)), ea_, H', ⟨by have := HK1.out; omega⟩, by repeat (first | exact Drawn0.refl _ | apply Drawn0.step)⟩
          · rw [if_neg c6] at H
            exact absurd H (by simp)
        · rw [if_neg c5] at H
          have c5b0 : decide (x6_1 < (l1.length : Int)) = false := decide_eq_false c5
          clear c5
          obtain rfl := Option.some.inj H
          go_wp2
          go_ret
          exact ⟨by first | rfl | (simp; done) | (simp [*]; done), by repeat (first | exact Drawn0.refl _ | apply Drawn0.step)⟩
  · rw [if_neg c4] at H
    have c4b0 : (t481 == 0) = false := beq_eq_false_iff_ne.mpr c4
    have c4b1 : (t481 != 0) = true := bne_iff_ne.mpr c4
    obtain rfl := Option.some.inj H
    go_enter Try.func46, Try.ntmps46
    go_wp2_with (first | ((with_reducible refine gate_callee (f := 25) rfl ?_); refine goesM_ (some 9) rfl rfl Try.func25 #[.int .i64 a0, .slice A1 l1.length c1] rfl ?_; (with_reducible refine (spec_l01Code.calls k a0 _ _ l1 t481 _ ?side1 ?side2 A3.out).mono ?_); (case side1 => exact cs (HR1.out)); (case side2 => exact HC1.out); rintro e w' ⟨rfl, ⟨nd, rfl⟩⟩; refine ⟨_, rfl, ?_⟩))
    go_ret
    exact ⟨by first | rfl | (simp; done) | (simp [*]; done), by repeat (first | exact Drawn0.refl _ | apply Drawn0.step)⟩

end Go.Proofs.Ytcimpcdgdffnpaa.H
-- written by wip/drive.py (the session's own program) over the translation; Lean checks it
namespace Go.Proofs.Ytcimpcdgdffnpaa.H
open Go.RowKit Go.Proofs.YtcimpcdgdffnpaaW.PrintWords Go.Proofs.YtcimpcdgdffnpaaW.PrintLast Go.Proofs.YtcimpcdgdffnpaaW.PrintMore
attribute [local go_sem] max2_int min2_int max_two min_two max_three min_three max_four min_four   -- for this text's walks alone
set_option linter.unusedVariables false
set_option linter.unusedSimpArgs false

/-! ### spec_l06Roots: function 47 -/
def spec_l06Roots.l0 : Nat → Int → List Int → List Int → Int → Option (List Int)
  | 0, _, _, _, _ => none
  | k + 1, x0, x1, x5, x6 => if x6 < x0 then ((spec_l01At.f k x0 x1 x6).bind fun t486 => (if t486 = 0 then (if x5.length < 17592186044416 then (spec_l06Roots.l0 k x0 x1 (x5 ++ [x6]) (wrap64 (x6 + 1))) else (none)) else (spec_l06Roots.l0 k x0 x1 x5 (wrap64 (x6 + 1))))) else (some x5)
def spec_l06Roots.f (k : Nat) (a0 : Int) (l1 : List Int) : Option (List Int) := spec_l06Roots.l0 k a0 l1 (([] : List Int)) 0
theorem spec_l06Roots.mono_l : ∀ k, (∀ y0 y1 y2 y3, LeO (spec_l06Roots.l0 k y0 y1 y2 y3) (spec_l06Roots.l0 (k + 1) y0 y1 y2 y3))
  | 0 => fun _ _ _ _ r h => by simp [spec_l06Roots.l0] at h
  | k + 1 => by
    have ih0 := spec_l06Roots.mono_l k
    · intro y0 y1 y2 y3
      unfold spec_l06Roots.l0
      repeat' first
      | (with_reducible exact ih0 _ _ _ _)
      | (with_reducible exact spec_l01At.mono _ _ _ _)
      | (with_reducible exact LeO.refl _)
      | (with_reducible exact LeO.none _)
      | (with_reducible refine LeO.ite ?_ ?_)
      | (with_reducible refine LeO.bind ?_ (fun _ => ?_))
      | exact ih0 _ _ _ _
      | exact spec_l01At.mono _ _ _ _
      | exact LeO.none _
      | refine LeO.ite ?_ ?_
      | refine LeO.bind ?_ (fun _ => ?_)
theorem spec_l06Roots.mono : ∀ a0 a1 k, LeO (spec_l06Roots.f k a0 a1) (spec_l06Roots.f (k + 1) a0 a1) := by
  intro a0 a1 k
  have ih0 := spec_l06Roots.mono_l k
  unfold spec_l06Roots.f
  repeat' first
      | (with_reducible exact ih0 _ _ _ _)
      | (with_reducible exact spec_l01At.mono _ _ _ _)
      | (with_reducible exact LeO.refl _)
      | (with_reducible exact LeO.none _)
      | (with_reducible refine LeO.ite ?_ ?_)
      | (with_reducible refine LeO.bind ?_ (fun _ => ?_))
      | exact ih0 _ _ _ _
      | exact spec_l01At.mono _ _ _ _
      | exact LeO.none _
      | refine LeO.ite ?_ ?_
      | refine LeO.bind ?_ (fun _ => ?_)
set_option maxHeartbeats 8000000 in
set_option maxRecDepth 100000 in
theorem spec_l06Roots.calls (k : Nat) (a0 : Int) (A1 : Option Addr) (c1 : Nat) (l1 : List Int) (r : List Int) (w : World) (hr1 : Kd.C (Kd.int .i64) w A1 l1.length l1) (hc1 : l1.length ≤ c1) (h : spec_l06Roots.f k a0 l1 = some r) :
    Calls Try.prog 47 #[.int .i64 a0, .slice A1 l1.length c1] w fun e w' => ∃ v0_ : Value, e = .returned (v0_) ∧ Kd.R (Kd.int .i64) 2 w' w.heap.size (fun _ => True) v0_ r ∧ Below w.heap.size w w' := by
  have HR1 := Aside0.mk hr1
  have HC1 := Aside0.mk hc1
  clear hr1 hc1
  have HB := Aside0.mk (Below.refl w.heap.size w)
  have H : (spec_l06Roots.l0 k a0 l1 (([] : List Int)) 0) = some r := h
  clear h
  obtain ⟨y483, hy483⟩ : ∃ y_ : List Int, y_ = (([] : List Int)) := ⟨_, rfl⟩
  replace H : (spec_l06Roots.l0 k a0 l1 y483 0) = some r := by first | (rw [hy483]; with_reducible exact H) | (have H2_ := (Option.bind_some _ _).symm.trans H; rw [hy483]; with_reducible exact H2_) | (have H2_ := (Option.bind_some _ _).symm.trans H; with_reducible exact H2_) | with_reducible exact H | (rw [hy483]; exact H) | exact H
  have Ny483 := Aside0.mk hy483
  clear hy483
  have H' := Aside0.mk H
  clear H
  go_enter Try.func47, Try.ntmps47
  go_wp2_with (first | ((with_reducible refine gate_dst (N := 7) rfl ?_); refine Kd.R_lit (Kd.int .i64) _ 2 ?hg (N := 7) ?hd (xs := ([] : List Int)) (inner := []) (ok := fun _ => True) (okp := fun _ => True) ?hr ?hp (fun _ hk => hk) trivial (Below.refl _ _) (Nat.le_refl _) (by simp) ?_; (case hd => rfl); (case hg => rfl); (case hr => first | (go_simp; done) | (go_simp; rfl)); (case hp => exact (Reps.none _ _)); intro v484 w3 ho4 hb hg_ hnew_; clear hg_ hnew_; (first | rw [← Ny483.out] at ho4 | (simp only [Int.reduceToNat] at ho4; rw [← Ny483.out] at ho4)); have n0_ := Aside0.mk (Kd.R_lower ho4 (below_size (bs HB))); have n1_ := Aside0.mk (below_step (bs HB) hb); clear HB; have HO485 := n0_; have HB := n1_; clear n0_ n1_; clear hb ho4))
  go_loopg [5, 6] k (fun kq v5 v6 w' => ∃ (x5_1 : List Int) (x6_1 : Int), v6 = .int .i64 x6_1 ∧ Aside0 (spec_l06Roots.l0 kq a0 l1 x5_1 x6_1 = some r) ∧ Aside0 (kq ≤ k) ∧ Aside0 (Kd.R (Kd.int .i64) 2 w' w.heap.size (fun _ => True) v5 x5_1) ∧ Aside0 (Below w.heap.size w w'))
  case atStart => exact ⟨(y483), (0), ea_, H', ⟨Nat.le_refl _⟩, ⟨by (with_reducible repeat (first | apply Kd.R_alloc | apply Kd.R_drewN | apply Kd.R_drew)); exact HO485.out⟩, ⟨by repeat (first | (with_reducible first | exact HB.out | apply below_alloc | apply pw_below_drewN | apply below_drew1) | exact HB.out)⟩⟩
  case round =>
    clear H'
    try clear c1
    try clear p2
    try clear c4
    obtain ⟨x5_1, x6_1, rfl, HA, HK1, HO_5, HB⟩ := hrel
    cases gk with
    | zero => exact absurd HA.out (by simp [spec_l06Roots.l0])
    | succ k1 =>
      have H := HA.out
      clear HA
      simp only [spec_l06Roots.l0] at H
      by_cases c5 : x6_1 < a0
      · rw [if_pos c5] at H
        have c5b0 : decide (x6_1 < a0) = true := decide_eq_true c5
        clear c5
        replace H := Option.bind_eq_some_iff.mp H
        obtain ⟨t486, A60, H⟩ := H
        have A6 := Aside0.mk A60
        clear A60
        by_cases c7 : t486 = 0
        · rw [if_pos c7] at H
          have c7b0 : (t486 == 0) = true := beq_iff_eq.mpr c7
          have c7b1 : (t486 != 0) = false := bne_eq_false_iff_eq.mpr c7
          clear c7
          by_cases c8 : x5_1.length < 17592186044416
          · rw [if_pos c8] at H
            have LMc8 := Aside0.mk c8
            clear c8
            obtain ⟨y487, hy487⟩ : ∃ y_ : List Int, y_ = (x5_1 ++ [x6_1]) := ⟨_, rfl⟩
            replace H : (spec_l06Roots.l0 k1 a0 l1 y487 (wrap64 (x6_1 + 1))) = some r := by first | (rw [hy487]; with_reducible exact H) | (have H2_ := (Option.bind_some _ _).symm.trans H; rw [hy487]; with_reducible exact H2_) | (have H2_ := (Option.bind_some _ _).symm.trans H; with_reducible exact H2_) | with_reducible exact H | (rw [hy487]; exact H) | exact H
            have Ny487 := Aside0.mk hy487
            clear hy487
            have H' := Aside0.mk H
            clear H
            go_wp2_with (first | ((with_reducible refine gate_callee (f := 27) rfl ?_); refine goesM_ (some 16) rfl rfl Try.func27 #[.int .i64 a0, .slice A1 l1.length c1, .int .i64 x6_1] rfl ?_; (with_reducible refine (spec_l01At.calls k1 a0 _ _ l1 x6_1 t486 _ ?side1 ?side2 A6.out).mono ?_); (case side1 => exact cs ((Kd.C_below HR1.out HB.out))); (case side2 => exact HC1.out); rintro e w' ⟨rfl, ⟨nd, rfl⟩⟩; refine ⟨_, rfl, ?_⟩) | ((with_reducible refine gate_builtin (b := .append) (xs := #[.tmp 18, .tmp 20]) rfl ?_); at_builtin; refine Kd.R_append (Kd.int .i64) (w0 := w) w.heap.size rfl (.tmp 18) (.tmp 20) 22 2 (.int .i64 0) 8 rfl Try.underlying22 info2 rfl (by decide) (by omega) u5 x5_1 x6_1 [.int .i64 x6_1] (fun _ => True) (fun _ => False) rfl rfl ?aP (fun _ hk => hk.elim) ?aF ?aO ?aB ?aS ?aL ?_; (case aP => exact rfl); (case aB => exact (bs HB)); (case aF => exact (fun _ _ => trivial)); (case aO => exact (rs HO_5)); (case aS => exact (below_size (bs HB))); (case aL => have := LMc8.out; omega); intro v488 w9 ho hb hg hat; rw [← Ny487.out] at ho; have n0_ := Aside0.mk (hb); have n1_ := Aside0.mk (ho); clear HB; clear HO_5; have HB := n0_; have HO489 := n1_; clear n0_ n1_; clear ho hb hg hat))
            go_roundg k1
            case measure => have := HK1.out; omega
            case rel => exact ⟨(y487), (wrap64 (x6_1 + 1)), ea_, H', ⟨by have := HK1.out; omega⟩, ⟨by (with_reducible repeat (first | apply Kd.R_alloc | apply Kd.R_drewN | apply Kd.R_drew)); exact HO489.out⟩, ⟨by repeat (first | (with_reducible first | exact HB.out | apply below_alloc | apply pw_below_drewN | apply below_drew1) | exact HB.out)⟩⟩
          · rw [if_neg c8] at H
            exact absurd H (by simp)
        · rw [if_neg c7] at H
          have c7b0 : (t486 == 0) = false := beq_eq_false_iff_ne.mpr c7
          have c7b1 : (t486 != 0) = true := bne_iff_ne.mpr c7
          have H' := Aside0.mk H
          clear H
          go_wp2_with (first | ((with_reducible refine gate_callee (f := 27) rfl ?_); refine goesM_ (some 16) rfl rfl Try.func27 #[.int .i64 a0, .slice A1 l1.length c1, .int .i64 x6_1] rfl ?_; (with_reducible refine (spec_l01At.calls k1 a0 _ _ l1 x6_1 t486 _ ?side1 ?side2 A6.out).mono ?_); (case side1 => exact cs ((Kd.C_below HR1.out HB.out))); (case side2 => exact HC1.out); rintro e w' ⟨rfl, ⟨nd, rfl⟩⟩; refine ⟨_, rfl, ?_⟩))
          go_roundg k1
          case measure => have := HK1.out; omega
          case rel => exact ⟨(x5_1), (wrap64 (x6_1 + 1)), ea_, H', ⟨by have := HK1.out; omega⟩, ⟨by (with_reducible repeat (first | apply Kd.R_alloc | apply Kd.R_drewN | apply Kd.R_drew)); exact HO_5.out⟩, ⟨by repeat (first | (with_reducible first | exact HB.out | apply below_alloc | apply pw_below_drewN | apply below_drew1) | exact HB.out)⟩⟩
      · rw [if_neg c5] at H
        have c5b0 : decide (x6_1 < a0) = false := decide_eq_false c5
        clear c5
        obtain rfl := Option.some.inj H
        go_wp2
        go_ret
        exact ⟨_, by first | rfl | (simp [errW_none, errW_some] <;> rfl) | (simp [*, errW_none, errW_some] <;> rfl), by (with_reducible repeat (first | apply Kd.R_alloc | apply Kd.R_drewN | apply Kd.R_drew)); exact HO_5.out, by repeat (first | (with_reducible first | exact HB.out | apply below_alloc | apply pw_below_drewN | apply below_drew1) | exact HB.out)⟩

end Go.Proofs.Ytcimpcdgdffnpaa.H
/- Layer 6: codes of polynomials other than 0, roots, scaled roots. -/
set_option linter.unusedVariables false
set_option linter.unusedSimpArgs false
namespace Go.Proofs.Ytcimpcdgdffnpaa.H
open Go.RowKit Go.Proofs.YtcimpcdgdffnpaaW.PrintWords Go.Proofs.YtcimpcdgdffnpaaW.PrintLast Go.Proofs.YtcimpcdgdffnpaaW.PrintMore Go.Proofs.Ytcimpcdgdffnpaa.Num

theorem impl_deg (l : List Int) (h : l.length ≤ 1000000000000) : impl_degree.f l = some ((l.length : Int) - 1) := by
  simp (disch := omega) only [impl_degree.f, impl_length_int64.f, Option.bind_some, w64]

/-- the code with the test for 0 behind it -/
def fillL (c : Int) (ls : List (List Int)) : Int := if c = 0 then (if ls.all (fun l => decide (0 < l.length)) = true then 0 else 5) else c
theorem fill_loop (ls : List (List Int)) (hl : ls.length ≤ 1000000) : ∀ (d i : Nat), i + d = ls.length → Ev (fun k => spec_l06Code.l0 k ls (i : Int)) (if (ls.drop i).all (fun l => decide (0 < l.length)) = true then 0 else 5) := by
  intro d
  induction d with
  | zero => intro i h; refine Ev.succ ?_; simp (disch := omega) only [spec_l06Code.l0, if_neg, List.drop_of_length_le]; exact Ev.now _
  | succ d ih =>
    intro i h
    have hi := ih (i + 1) (by omega)
    have hrd : rd_L1 ls (i : Int) = ls[i]'(by omega) := by simp [rd_L1, List.getD_eq_getElem?_getD, show i < ls.length by omega]
    refine Ev.succ ?_
    rw [List.drop_eq_getElem_cons (show i < ls.length by omega)]
    simp (disch := omega) only [spec_l06Code.l0, if_pos, hrd, wp1, List.all_cons]
    by_cases h0 : (ls[i]'(by omega)).length = 0
    · have h1 : (((ls[i]'(by omega)).length : Nat) : Int) = 0 := by omega
      simp only [h1, if_true, h0, Nat.lt_irrefl, decide_false, Bool.false_and, Bool.false_eq_true, if_false]
      exact Ev.now _
    · have h1 : ¬ (((ls[i]'(by omega)).length : Nat) : Int) = 0 := by omega
      simp only [if_neg h1, decide_eq_true (show 0 < (ls[i]'(by omega)).length by omega), Bool.true_and]
      exact hi
theorem spec_code6 (p : Int) (ls : List (List Int)) (hl : ls.length ≤ 1000000) (hls : ∀ l ∈ ls, l.length ≤ 1000000000) : Ev (fun k => spec_l06Code.f k p ls) (fillL (codeL p true ls) ls) := by
  have h1 := spec_code p ls hl hls
  have h2 := fill_loop ls hl ls.length 0 (by omega)
  simp only [spec_l06Code.f, fillL]
  refine Ev.bind h1 ?_
  by_cases h : codeL p true ls = 0
  · simp only [h, if_true]; exact h2
  · simp only [if_neg h]; exact Ev.now _
theorem impl_fill1 (p : Int) (b : Bool) (l : List Int) : Ev (fun k => impl_filledCode_1.f k p b l) (fillL (codeL p b [l]) [l]) := by
  simp only [impl_filledCode_1.f]
  refine Ev.bind (impl_code1 p b l) ?_
  simp only [fillL, List.all_cons, List.all_nil, Bool.and_true]
  exact Ev.now _
theorem impl_fill2 (p : Int) (b : Bool) (l l' : List Int) : Ev (fun k => impl_filledCode_2.f k p b l l') (fillL (codeL p b [l, l']) [l, l']) := by
  simp only [impl_filledCode_2.f]
  refine Ev.bind (impl_code2 p b l l') ?_
  simp only [fillL, List.all_cons, List.all_nil, Bool.and_true]
  exact Ev.now _
/-- what the code 0 tells -/
theorem fillL_0 {p : Int} {b : Bool} {ls : List (List Int)} (h : fillL (codeL p b ls) ls = 0) : IsP p ∧ b = true ∧ ∀ l ∈ ls, Po p l ∧ 0 < l.length := by
  unfold fillL at h
  split at h
  · rename_i hc
    split at h
    · rename_i ha
      obtain ⟨h1, h2, h3⟩ := codeL_0 hc
      exact ⟨h1, h2, fun l hl => ⟨h3 l hl, of_decide_eq_true (List.all_eq_true.1 ha l hl)⟩⟩
    · cases h
  · rename_i hc; exact absurd h hc

/-! ## roots -/
def rts (p : Int) (f : List Int) (i : Nat) : List Int := ((List.range i).map (fun (n : Nat) => (n : Int))).filter (fun x => decide (valL p f x = 0))
def rootsL (p : Int) (f : List Int) : List Int := rts p f p.toNat
theorem rts_succ (p : Int) (f : List Int) (i : Nat) : rts p f (i + 1) = if valL p f i = 0 then rts p f i ++ [(i : Int)] else rts p f i := by
  unfold rts
  rw [List.range_succ, List.map_append, List.filter_append]
  by_cases h : valL p f i = 0 <;> simp [h]
theorem rts_len (p : Int) (f : List Int) (i : Nat) : (rts p f i).length ≤ i := by
  unfold rts
  refine Nat.le_trans (List.length_filter_le _ _) ?_
  simp
theorem spec_roots {p : Int} {f : List Int} (hp : 2 ≤ p) (hp2 : p ≤ 10007) (hf : f.length ≤ 1000) (rf : InR p f) : Ev (fun k => spec_l06Roots.f k p f) (rootsL p f) := by
  have loop : ∀ (d i : Nat), i + d = p.toNat → Ev (fun k => spec_l06Roots.l0 k p f (rts p f i) (i : Int)) (rootsL p f) := by
    intro d
    induction d with
    | zero => intro i h; refine Ev.succ ?_; simp (disch := omega) only [spec_l06Roots.l0, if_neg]; rw [show i = p.toNat by omega]; exact Ev.now _
    | succ d ih =>
      intro i h
      have hi := ih (i + 1) (by omega)
      have hv := spec_val (x := i) hp hp2 hf rf (by omega)
      have hl := rts_len p f i
      rw [rts_succ] at hi
      refine Ev.succ ?_
      simp (disch := omega) only [spec_l06Roots.l0, if_pos, wp1]
      refine Ev.bind hv ?_
      by_cases h0 : valL p f i = 0
      · simp (disch := omega) only [if_pos h0, if_pos]; rw [if_pos h0] at hi; exact hi
      · simp only [if_neg h0]; rw [if_neg h0] at hi; exact hi
  have h := loop p.toNat 0 (by omega)
  simp only [spec_l06Roots.f]
  exact h
theorem impl_roots {p : Int} {f : List Int} (hp : 2 ≤ p) (hp2 : p ≤ 10007) (hf : f.length ≤ 1000) (rf : InR p f) : Ev (fun k => impl_field_roots.f k p f) (rootsL p f) := by
  have loop : ∀ (d i : Nat), i + d = p.toNat → Ev (fun k => impl_field_roots.l0 k p f (rts p f i) p (i : Int)) (rootsL p f) := by
    intro d
    induction d with
    | zero => intro i h; refine Ev.succ ?_; simp (disch := omega) only [impl_field_roots.l0, if_neg]; rw [show i = p.toNat by omega]; exact Ev.now _
    | succ d ih =>
      intro i h
      have hi := ih (i + 1) (by omega)
      have hv := impl_val (x := i) (f := f) hp hp2 rf (by omega)
      have hl := rts_len p f i
      rw [rts_succ] at hi
      refine Ev.succ ?_
      simp (disch := omega) only [impl_field_roots.l0, if_pos, wp1, hv, Option.bind_some]
      by_cases h0 : valL p f i = 0
      · simp (disch := omega) only [if_pos h0, if_pos]; rw [if_pos h0] at hi; exact hi
      · simp only [if_neg h0]; rw [if_neg h0] at hi; exact hi
  have h := loop p.toNat 0 (by omega)
  simp only [impl_field_roots.f]
  exact h
theorem rootsL_len {p : Int} (hp : 0 < p) (hp2 : p ≤ 10007) (f : List Int) : (rootsL p f).length ≤ 10007 := by
  have := rts_len p f p.toNat; unfold rootsL; omega

/-! ## scaled roots -/
/-- number i of the scaled polynomial -/
def scN (p c : Int) (f : List Int) (i : Nat) : Int := f.getD i 0 * (c ^ (f.length - 1 - i) % p) % p
def scL (p c : Int) (f : List Int) : List Int := (List.range f.length).map (scN p c f)
theorem scL_len (p c : Int) (f : List Int) : (scL p c f).length = f.length := by simp [scL]
theorem scL_get (p c : Int) (f : List Int) (i : Nat) (h : i < f.length) : (scL p c f)[i]'(by rw [scL_len]; exact h) = scN p c f i := by simp [scL]
theorem spec_scale {p c : Int} {f : List Int} (hp : 2 ≤ p) (hp2 : p ≤ 10007) (hf : f.length ≤ 1000) (rf : InR p f) (hc : 0 ≤ c ∧ c < p) : ∀ n, n ≤ f.length →
    Ev (fun k => spec_ScaleRoots.l0 k p f c (List.replicate n 0 ++ (scL p c f).drop n) (c ^ (f.length - n) % p) ((n : Int) - 1)) (scL p c f, 0) := by
  intro n
  induction n with
  | zero => intro _; refine Ev.succ ?_; simp (disch := omega) only [spec_ScaleRoots.l0, if_neg, List.replicate_zero, List.nil_append, List.drop_zero]; exact Ev.now _
  | succ n ih =>
    intro hn
    have hi := ih (by omega)
    have hw := emod_bd (x := c ^ (f.length - (n + 1))) (p := p) (by omega)
    have hg := rf.get (by omega) n
    have h1 := mul_bd2 hp2 hg (y := c ^ (f.length - (n + 1)) % p) (by omega)
    have h2 := mul_bd2 hp2 hw (y := c) (by omega)
    have e1 : c ^ (f.length - n) % p = c ^ (f.length - (n + 1)) % p * c % p := by
      rw [em_l, show f.length - n = f.length - (n + 1) + 1 by omega, Int.pow_succ]
    have e2 : List.replicate n 0 ++ (scL p c f).drop n = (List.replicate (n + 1) 0 ++ (scL p c f).drop (n + 1)).set n (f.getD n 0 * (c ^ (f.length - (n + 1)) % p) % p) := by
      rw [List.drop_eq_getElem_cons (show n < (scL p c f).length by rw [scL_len]; omega), scL_get p c f n (by omega), List.replicate_succ', List.append_assoc, List.set_append_right _ _ (by simp), List.length_replicate, Nat.sub_self]
      simp [scN, show f.length - 1 - n = f.length - (n + 1) by omega]
    have hlen : (List.replicate (n + 1) (0 : Int) ++ (scL p c f).drop (n + 1)).length = f.length := by simp [scL_len]; omega
    rw [e1, e2] at hi
    refine Ev.succ ?_
    simp (disch := omega) only [spec_ScaleRoots.l0, ws1, if_pos, if_neg, rd_n, w64, tmod_nn, wm1, Int.toNat_natCast]
    exact hi
theorem impl_scale {p c : Int} {f : List Int} (hp : 2 ≤ p) (hp2 : p ≤ 10007) (hf : f.length ≤ 1000) (rf : InR p f) (hc : 0 ≤ c ∧ c < p) : ∀ d i, i + d = f.length →
    Ev (fun k => impl_ScaleRoots.l0 k f ((scL p c f).take i) f (f.length : Int) (i : Int) p c) (scL p c f, 0) := by
  intro d
  induction d with
  | zero => intro i h; refine Ev.succ ?_; simp (disch := omega) only [impl_ScaleRoots.l0, if_neg]; rw [List.take_of_length_le (by rw [scL_len]; omega)]; exact Ev.now _
  | succ d ih =>
    intro i h
    have hi := ih (i + 1) (by omega)
    rw [List.take_succ_eq_append_getElem (by rw [scL_len]; omega), scL_get p c f i (by omega)] at hi
    have hw := emod_bd (x := c ^ (f.length - 1 - i)) (p := p) (by omega)
    have hg := rf.get (by omega) i
    have h1 := mul_bd2 hp2 hg (y := c ^ (f.length - 1 - i) % p) (by omega)
    have hpw := impl_power (x := c) (e := (f.length : Int) - 1 - i) hp hp2 hc.1 hc.2 (by omega) (by omega)
    rw [show ((f.length : Int) - 1 - i).toNat = f.length - 1 - i by omega] at hpw
    refine Ev.succ ?_
    simp (disch := omega) only [impl_ScaleRoots.l0, if_pos, impl_deg, Option.bind_some, rd_n, wp1, w64]
    refine Ev.bind hpw ?_
    have hl : ((scL p c f).take i).length < 17592186044416 := by rw [List.length_take, scL_len]; omega
    simp (disch := omega) only [impl_mul, Option.bind_some, if_pos hl]
    exact hi
end Go.Proofs.Ytcimpcdgdffnpaa.H

