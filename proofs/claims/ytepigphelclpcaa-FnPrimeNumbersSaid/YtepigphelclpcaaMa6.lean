/- Joined texts of a claim: the printed functions and what is proved of them. -/
import Derived.Test.YtepigphelclpcaaHx0
import Derived.Test.YtepigphelclpcaaMa1
import Derived.Test.YtepigphelclpcaaMa3
import Derived.Test.YtepigphelclpcaaMa4
import Derived.Test.YtepigphelclpcaaMa5
-- written by wip/drive.py (the session's own program) over the translation; Lean checks it
namespace Go.Proofs.Ytepigphelclpcaa.H
open Go.RowKit Go.Proofs.YtepigphelclpcaaW.PrintWords Go.Proofs.YtepigphelclpcaaW.PrintLast Go.Proofs.YtepigphelclpcaaW.PrintMore
attribute [local go_sem] max2_int min2_int max_two min_two max_three min_three max_four min_four   -- for this text's walks alone
set_option linter.unusedVariables false
set_option linter.unusedSimpArgs false

/-! ### laws_FnPrimeNumbers: function 4 -/
mutual
def laws_FnPrimeNumbers.j0 : Nat → List Int → Int → Int → Int → Int → Bool → Option (Bool)
  | 0, _, _, _, _, _, _ => none
  | k + 1, x0, x3, x4, x5, x6, x47 => if x47 = true then (some false) else (if x6 = 0 then ((impl_PowerOf.f k x3 x4 (wrap64 (x3 - 1))).bind fun bt355 => (if bt355.2 = 0 then (if bt355.1 = 1 then (if x3 = 0 then (none) else (if (Int.tmod (wrap64 (x4 * x5)) x3) = 1 then (laws_FnPrimeNumbers.j1 k x0) else (some false))) else (some false)) else (some false))) else (laws_FnPrimeNumbers.j1 k x0))
def laws_FnPrimeNumbers.j1 : Nat → List Int → Option (Bool)
  | 0, _ => none
  | k + 1, x0 => (spec_DrawPowerOf.f k x0).bind fun bt357 => ((impl_PowerOf.f k bt357.1 bt357.2.1 bt357.2.2).bind fun bt360 => ((spec_PowerOf.f k bt357.1 bt357.2.1 bt357.2.2).bind fun bt362 => (if bt360.2 = bt362.2 then (laws_FnPrimeNumbers.j2 k x0 bt357.1 bt357.2.1 bt357.2.2 bt360.1 bt360.2 (bt360.1 != bt362.1)) else (laws_FnPrimeNumbers.j2 k x0 bt357.1 bt357.2.1 bt357.2.2 bt360.1 bt360.2 true))))
def laws_FnPrimeNumbers.j2 : Nat → List Int → Int → Int → Int → Int → Int → Bool → Option (Bool)
  | 0, _, _, _, _, _, _, _ => none
  | k + 1, x0, x11, x12, x13, x14, x15, x99 => if x99 = true then (some false) else (if x15 = 0 then (laws_FnPrimeNumbers.j3 k x0 x11 x12 x13 x14 (decide (x13 < 1000000000))) else (laws_FnPrimeNumbers.j3 k x0 x11 x12 x13 x14 false))
def laws_FnPrimeNumbers.j3 : Nat → List Int → Int → Int → Int → Int → Bool → Option (Bool)
  | 0, _, _, _, _, _, _ => none
  | k + 1, x0, x11, x12, x13, x14, x105 => if x105 = true then ((impl_PowerOf.f k x11 x12 (wrap64 (x13 + 1))).bind fun bt364 => (if bt364.2 = 0 then (if x11 = 0 then (none) else (laws_FnPrimeNumbers.j4 k x0 (bt364.1 != (Int.tmod (wrap64 (x14 * x12)) x11)))) else (laws_FnPrimeNumbers.j4 k x0 true))) else ((spec_DrawIsPrime.f k x0).bind fun t369 => ((impl_IsPrime.f k t369).bind fun t370 => ((spec_IsPrime.f k t369).bind fun t371 => (some (t370 == t371)))))
def laws_FnPrimeNumbers.j4 : Nat → List Int → Bool → Option (Bool)
  | 0, _, _ => none
  | k + 1, x0, x124 => if x124 = true then (some false) else ((spec_DrawIsPrime.f k x0).bind fun t366 => ((impl_IsPrime.f k t366).bind fun t367 => ((spec_IsPrime.f k t366).bind fun t368 => (some (t367 == t368)))))
end
def laws_FnPrimeNumbers.f (k : Nat) (l0 : List Int) : Option (Bool) := (laws_big.f l0).bind fun t348 => (if t348 = true then (some true) else ((spec_DrawInverseOf.f k l0).bind fun bt349 => ((impl_InverseOf.f k bt349.1 bt349.2).bind fun bt351 => ((spec_InverseOf.f k bt349.1 bt349.2).bind fun bt353 => (if bt351.2 = bt353.2 then (laws_FnPrimeNumbers.j0 k l0 bt349.1 bt349.2 bt351.1 bt351.2 (bt351.1 != bt353.1)) else (laws_FnPrimeNumbers.j0 k l0 bt349.1 bt349.2 bt351.1 bt351.2 true))))))
theorem laws_FnPrimeNumbers.mono_l : ∀ k, (∀ y0 y1 y2 y3 y4 y5, LeO (laws_FnPrimeNumbers.j0 k y0 y1 y2 y3 y4 y5) (laws_FnPrimeNumbers.j0 (k + 1) y0 y1 y2 y3 y4 y5)) ∧ (∀ y0, LeO (laws_FnPrimeNumbers.j1 k y0) (laws_FnPrimeNumbers.j1 (k + 1) y0)) ∧ (∀ y0 y1 y2 y3 y4 y5 y6, LeO (laws_FnPrimeNumbers.j2 k y0 y1 y2 y3 y4 y5 y6) (laws_FnPrimeNumbers.j2 (k + 1) y0 y1 y2 y3 y4 y5 y6)) ∧ (∀ y0 y1 y2 y3 y4 y5, LeO (laws_FnPrimeNumbers.j3 k y0 y1 y2 y3 y4 y5) (laws_FnPrimeNumbers.j3 (k + 1) y0 y1 y2 y3 y4 y5)) ∧ (∀ y0 y1, LeO (laws_FnPrimeNumbers.j4 k y0 y1) (laws_FnPrimeNumbers.j4 (k + 1) y0 y1))
  | 0 => ⟨fun _ _ _ _ _ _ r h => by simp [laws_FnPrimeNumbers.j0] at h, fun _ r h => by simp [laws_FnPrimeNumbers.j1] at h, fun _ _ _ _ _ _ _ r h => by simp [laws_FnPrimeNumbers.j2] at h, fun _ _ _ _ _ _ r h => by simp [laws_FnPrimeNumbers.j3] at h, fun _ _ r h => by simp [laws_FnPrimeNumbers.j4] at h⟩
  | k + 1 => by
    obtain ⟨ih0, ih1, ih2, ih3, ih4⟩ := laws_FnPrimeNumbers.mono_l k
    refine ⟨?_, ?_, ?_, ?_, ?_⟩
    · intro y0 y1 y2 y3 y4 y5
      unfold laws_FnPrimeNumbers.j0
      repeat' first
      | (with_reducible exact ih0 _ _ _ _ _ _)
      | (with_reducible exact ih1 _)
      | (with_reducible exact ih2 _ _ _ _ _ _ _)
      | (with_reducible exact ih3 _ _ _ _ _ _)
      | (with_reducible exact ih4 _ _)
      | (with_reducible exact impl_InverseOf.mono _ _ _)
      | (with_reducible exact impl_IsPrime.mono _ _)
      | (with_reducible exact impl_PowerOf.mono _ _ _ _)
      | (with_reducible exact spec_DrawInverseOf.mono _ _)
      | (with_reducible exact spec_DrawIsPrime.mono _ _)
      | (with_reducible exact spec_DrawPowerOf.mono _ _)
      | (with_reducible exact spec_InverseOf.mono _ _ _)
      | (with_reducible exact spec_IsPrime.mono _ _)
      | (with_reducible exact spec_PowerOf.mono _ _ _ _)
      | (with_reducible exact LeO.refl _)
      | (with_reducible exact LeO.none _)
      | (with_reducible refine LeO.ite ?_ ?_)
      | (with_reducible refine LeO.bind ?_ (fun _ => ?_))
      | exact ih0 _ _ _ _ _ _
      | exact ih1 _
      | exact ih2 _ _ _ _ _ _ _
      | exact ih3 _ _ _ _ _ _
      | exact ih4 _ _
      | exact impl_InverseOf.mono _ _ _
      | exact impl_IsPrime.mono _ _
      | exact impl_PowerOf.mono _ _ _ _
      | exact spec_DrawInverseOf.mono _ _
      | exact spec_DrawIsPrime.mono _ _
      | exact spec_DrawPowerOf.mono _ _
      | exact spec_InverseOf.mono _ _ _
      | exact spec_IsPrime.mono _ _
      | exact spec_PowerOf.mono _ _ _ _
      | exact LeO.none _
      | refine LeO.ite ?_ ?_
      | refine LeO.bind ?_ (fun _ => ?_)
    · intro y0
      unfold laws_FnPrimeNumbers.j1
      repeat' first
      | (with_reducible exact ih0 _ _ _ _ _ _)
      | (with_reducible exact ih1 _)
      | (with_reducible exact ih2 _ _ _ _ _ _ _)
      | (with_reducible exact ih3 _ _ _ _ _ _)
      | (with_reducible exact ih4 _ _)
      | (with_reducible exact impl_InverseOf.mono _ _ _)
      | (with_reducible exact impl_IsPrime.mono _ _)
      | (with_reducible exact impl_PowerOf.mono _ _ _ _)
      | (with_reducible exact spec_DrawInverseOf.mono _ _)
      | (with_reducible exact spec_DrawIsPrime.mono _ _)
      | (with_reducible exact spec_DrawPowerOf.mono _ _)
      | (with_reducible exact spec_InverseOf.mono _ _ _)
      | (with_reducible exact spec_IsPrime.mono _ _)
      | (with_reducible exact spec_PowerOf.mono _ _ _ _)
      | (with_reducible exact LeO.refl _)
      | (with_reducible exact LeO.none _)
      | (with_reducible refine LeO.ite ?_ ?_)
      | (with_reducible refine LeO.bind ?_ (fun _ => ?_))
      | exact ih0 _ _ _ _ _ _
      | exact ih1 _
      | exact ih2 _ _ _ _ _ _ _
      | exact ih3 _ _ _ _ _ _
      | exact ih4 _ _
      | exact impl_InverseOf.mono _ _ _
      | exact impl_IsPrime.mono _ _
      | exact impl_PowerOf.mono _ _ _ _
      | exact spec_DrawInverseOf.mono _ _
      | exact spec_DrawIsPrime.mono _ _
      | exact spec_DrawPowerOf.mono _ _
      | exact spec_InverseOf.mono _ _ _
      | exact spec_IsPrime.mono _ _
      | exact spec_PowerOf.mono _ _ _ _
      | exact LeO.none _
      | refine LeO.ite ?_ ?_
      | refine LeO.bind ?_ (fun _ => ?_)
    · intro y0 y1 y2 y3 y4 y5 y6
      unfold laws_FnPrimeNumbers.j2
      repeat' first
      | (with_reducible exact ih0 _ _ _ _ _ _)
      | (with_reducible exact ih1 _)
      | (with_reducible exact ih2 _ _ _ _ _ _ _)
      | (with_reducible exact ih3 _ _ _ _ _ _)
      | (with_reducible exact ih4 _ _)
      | (with_reducible exact impl_InverseOf.mono _ _ _)
      | (with_reducible exact impl_IsPrime.mono _ _)
      | (with_reducible exact impl_PowerOf.mono _ _ _ _)
      | (with_reducible exact spec_DrawInverseOf.mono _ _)
      | (with_reducible exact spec_DrawIsPrime.mono _ _)
      | (with_reducible exact spec_DrawPowerOf.mono _ _)
      | (with_reducible exact spec_InverseOf.mono _ _ _)
      | (with_reducible exact spec_IsPrime.mono _ _)
      | (with_reducible exact spec_PowerOf.mono _ _ _ _)
      | (with_reducible exact LeO.refl _)
      | (with_reducible exact LeO.none _)
      | (with_reducible refine LeO.ite ?_ ?_)
      | (with_reducible refine LeO.bind ?_ (fun _ => ?_))
      | exact ih0 _ _ _ _ _ _
      | exact ih1 _
      | exact ih2 _ _ _ _ _ _ _
      | exact ih3 _ _ _ _ _ _
      | exact ih4 _ _
      | exact impl_InverseOf.mono _ _ _
      | exact impl_IsPrime.mono _ _
      | exact impl_PowerOf.mono _ _ _ _
      | exact spec_DrawInverseOf.mono _ _
      | exact spec_DrawIsPrime.mono _ _
      | exact spec_DrawPowerOf.mono _ _
      | exact spec_InverseOf.mono _ _ _
      | exact spec_IsPrime.mono _ _
      | exact spec_PowerOf.mono _ _ _ _
      | exact LeO.none _
      | refine LeO.ite ?_ ?_
      | refine LeO.bind ?_ (fun _ => ?_)
    · intro y0 y1 y2 y3 y4 y5
      unfold laws_FnPrimeNumbers.j3
      repeat' first
      | (with_reducible exact ih0 _ _ _ _ _ _)
      | (with_reducible exact ih1 _)
      | (with_reducible exact ih2 _ _ _ _ _ _ _)
      | (with_reducible exact ih3 _ _ _ _ _ _)
      | (with_reducible exact ih4 _ _)
      | (with_reducible exact impl_InverseOf.mono _ _ _)
      | (with_reducible exact impl_IsPrime.mono _ _)
      | (with_reducible exact impl_PowerOf.mono _ _ _ _)
      | (with_reducible exact spec_DrawInverseOf.mono _ _)
      | (with_reducible exact spec_DrawIsPrime.mono _ _)
      | (with_reducible exact spec_DrawPowerOf.mono _ _)
      | (with_reducible exact spec_InverseOf.mono _ _ _)
      | (with_reducible exact spec_IsPrime.mono _ _)
      | (with_reducible exact spec_PowerOf.mono _ _ _ _)
      | (with_reducible exact LeO.refl _)
      | (with_reducible exact LeO.none _)
      | (with_reducible refine LeO.ite ?_ ?_)
      | (with_reducible refine LeO.bind ?_ (fun _ => ?_))
      | exact ih0 _ _ _ _ _ _
      | exact ih1 _
      | exact ih2 _ _ _ _ _ _ _
      | exact ih3 _ _ _ _ _ _
      | exact ih4 _ _
      | exact impl_InverseOf.mono _ _ _
      | exact impl_IsPrime.mono _ _
      | exact impl_PowerOf.mono _ _ _ _
      | exact spec_DrawInverseOf.mono _ _
      | exact spec_DrawIsPrime.mono _ _
      | exact spec_DrawPowerOf.mono _ _
      | exact spec_InverseOf.mono _ _ _
      | exact spec_IsPrime.mono _ _
      | exact spec_PowerOf.mono _ _ _ _
      | exact LeO.none _
      | refine LeO.ite ?_ ?_
      | refine LeO.bind ?_ (fun _ => ?_)
    · intro y0 y1
      unfold laws_FnPrimeNumbers.j4
      repeat' first
      | (with_reducible exact ih0 _ _ _ _ _ _)
      | (with_reducible exact ih1 _)
      | (with_reducible exact ih2 _ _ _ _ _ _ _)
      | (with_reducible exact ih3 _ _ _ _ _ _)
      | (with_reducible exact ih4 _ _)
      | (with_reducible exact impl_InverseOf.mono _ _ _)
      | (with_reducible exact impl_IsPrime.mono _ _)
      | (with_reducible exact impl_PowerOf.mono _ _ _ _)
      | (with_reducible exact spec_DrawInverseOf.mono _ _)
      | (with_reducible exact spec_DrawIsPrime.mono _ _)
      | (with_reducible exact spec_DrawPowerOf.mono _ _)
      | (with_reducible exact spec_InverseOf.mono _ _ _)
      | (with_reducible exact spec_IsPrime.mono _ _)
      | (with_reducible exact spec_PowerOf.mono _ _ _ _)
      | (with_reducible exact LeO.refl _)
      | (with_reducible exact LeO.none _)
      | (with_reducible refine LeO.ite ?_ ?_)
      | (with_reducible refine LeO.bind ?_ (fun _ => ?_))
      | exact ih0 _ _ _ _ _ _
      | exact ih1 _
      | exact ih2 _ _ _ _ _ _ _
      | exact ih3 _ _ _ _ _ _
      | exact ih4 _ _
      | exact impl_InverseOf.mono _ _ _
      | exact impl_IsPrime.mono _ _
      | exact impl_PowerOf.mono _ _ _ _
      | exact spec_DrawInverseOf.mono _ _
      | exact spec_DrawIsPrime.mono _ _
      | exact spec_DrawPowerOf.mono _ _
      | exact spec_InverseOf.mono _ _ _
      | exact spec_IsPrime.mono _ _
      | exact spec_PowerOf.mono _ _ _ _
      | exact LeO.none _
      | refine LeO.ite ?_ ?_
      | refine LeO.bind ?_ (fun _ => ?_)
theorem laws_FnPrimeNumbers.mono : ∀ a0 k, LeO (laws_FnPrimeNumbers.f k a0) (laws_FnPrimeNumbers.f (k + 1) a0) := by
  intro a0 k
  obtain ⟨ih0, ih1, ih2, ih3, ih4⟩ := laws_FnPrimeNumbers.mono_l k
  unfold laws_FnPrimeNumbers.f
  repeat' first
      | (with_reducible exact ih0 _ _ _ _ _ _)
      | (with_reducible exact ih1 _)
      | (with_reducible exact ih2 _ _ _ _ _ _ _)
      | (with_reducible exact ih3 _ _ _ _ _ _)
      | (with_reducible exact ih4 _ _)
      | (with_reducible exact impl_InverseOf.mono _ _ _)
      | (with_reducible exact impl_IsPrime.mono _ _)
      | (with_reducible exact impl_PowerOf.mono _ _ _ _)
      | (with_reducible exact spec_DrawInverseOf.mono _ _)
      | (with_reducible exact spec_DrawIsPrime.mono _ _)
      | (with_reducible exact spec_DrawPowerOf.mono _ _)
      | (with_reducible exact spec_InverseOf.mono _ _ _)
      | (with_reducible exact spec_IsPrime.mono _ _)
      | (with_reducible exact spec_PowerOf.mono _ _ _ _)
      | (with_reducible exact LeO.refl _)
      | (with_reducible exact LeO.none _)
      | (with_reducible refine LeO.ite ?_ ?_)
      | (with_reducible refine LeO.bind ?_ (fun _ => ?_))
      | exact ih0 _ _ _ _ _ _
      | exact ih1 _
      | exact ih2 _ _ _ _ _ _ _
      | exact ih3 _ _ _ _ _ _
      | exact ih4 _ _
      | exact impl_InverseOf.mono _ _ _
      | exact impl_IsPrime.mono _ _
      | exact impl_PowerOf.mono _ _ _ _
      | exact spec_DrawInverseOf.mono _ _
      | exact spec_DrawIsPrime.mono _ _
      | exact spec_DrawPowerOf.mono _ _
      | exact spec_InverseOf.mono _ _ _
      | exact spec_IsPrime.mono _ _
      | exact spec_PowerOf.mono _ _ _ _
      | exact LeO.none _
      | refine LeO.ite ?_ ?_
      | refine LeO.bind ?_ (fun _ => ?_)
set_option maxHeartbeats 8000000 in
set_option maxRecDepth 100000 in
theorem laws_FnPrimeNumbers.calls (k : Nat) (A0 : Option Addr) (c0 : Nat) (l0 : List Int) (r : Bool) (w : World) (hr0 : Kd.C (Kd.int .u8) w A0 l0.length l0) (hc0 : l0.length ≤ c0) (h : laws_FnPrimeNumbers.f k l0 = some r) :
    Calls Try.prog 4 #[.slice A0 l0.length c0] w fun e w' => e = .returned (.bool r) ∧ Below w.heap.size w w' := by
  have HR0 := Aside0.mk hr0
  have HC0 := Aside0.mk hc0
  clear hr0 hc0
  have HB := Aside0.mk (Below.refl w.heap.size w)
  have H : ((laws_big.f l0).bind fun t348 => (if t348 = true then (some true) else ((spec_DrawInverseOf.f k l0).bind fun bt349 => ((impl_InverseOf.f k bt349.1 bt349.2).bind fun bt351 => ((spec_InverseOf.f k bt349.1 bt349.2).bind fun bt353 => (if bt351.2 = bt353.2 then (laws_FnPrimeNumbers.j0 k l0 bt349.1 bt349.2 bt351.1 bt351.2 (bt351.1 != bt353.1)) else (laws_FnPrimeNumbers.j0 k l0 bt349.1 bt349.2 bt351.1 bt351.2 true))))))) = some r := h
  clear h
  replace H := Option.bind_eq_some_iff.mp H
  obtain ⟨t348, A20, H⟩ := H
  have A2 := Aside0.mk A20
  clear A20
  by_cases c3 : t348 = true
  · subst c3
    have H1 : (some true) = some r := by rw [if_pos rfl] at H; exact H
    clear H
    have H := H1
    clear H1
    obtain rfl := Option.some.inj H
    go_enter Try.func4, Try.ntmps4
    go_wp2_with (first | ((with_reducible refine gate_callee (f := 17) rfl ?_); refine goesM_ (some 22) rfl rfl Try.func17 #[.slice A0 l0.length c0] rfl ?_; (with_reducible refine (laws_big.calls _ _ l0 true _ ?side1 ?side2 A2.out).mono ?_); (case side1 => exact cs (HR0.out)); (case side2 => exact HC0.out); rintro e w' ⟨rfl, ⟨nd, rfl⟩⟩; refine ⟨_, rfl, ?_⟩))
    go_ret
    exact ⟨by first | rfl | (simp [errW_none, errW_some] <;> rfl) | (simp [*, errW_none, errW_some] <;> rfl), by repeat (first | (with_reducible first | exact HB.out | apply below_alloc | apply pw_below_drewN | apply below_drew1) | exact HB.out)⟩
  · replace c3 := Bool.eq_false_iff.mpr c3
    subst c3
    have H1 : ((spec_DrawInverseOf.f k l0).bind fun bt349 => ((impl_InverseOf.f k bt349.1 bt349.2).bind fun bt351 => ((spec_InverseOf.f k bt349.1 bt349.2).bind fun bt353 => (if bt351.2 = bt353.2 then (laws_FnPrimeNumbers.j0 k l0 bt349.1 bt349.2 bt351.1 bt351.2 (bt351.1 != bt353.1)) else (laws_FnPrimeNumbers.j0 k l0 bt349.1 bt349.2 bt351.1 bt351.2 true))))) = some r := by rw [if_neg (show ¬ (false = true) by decide)] at H; exact H
    clear H
    have H := H1
    clear H1
    replace H := Option.bind_eq_some_iff.mp H
    obtain ⟨⟨t349, t350⟩, A40, H⟩ := H
    have A4 := Aside0.mk A40
    clear A40
    replace H := Option.bind_eq_some_iff.mp H
    obtain ⟨⟨t351, t352⟩, A50, H⟩ := H
    have A5 := Aside0.mk A50
    clear A50
    replace H := Option.bind_eq_some_iff.mp H
    obtain ⟨⟨t353, t354⟩, A60, H⟩ := H
    have A6 := Aside0.mk A60
    clear A60
    have HC7 := Aside0.mk H
    clear H
    go_enter Try.func4, Try.ntmps4
    go_upto_region 6 with (first | ((with_reducible refine gate_callee (f := 17) rfl ?_); refine goesM_ (some 22) rfl rfl Try.func17 #[.slice A0 l0.length c0] rfl ?_; (with_reducible refine (laws_big.calls _ _ l0 false _ ?side1 ?side2 A2.out).mono ?_); (case side1 => exact cs (HR0.out)); (case side2 => exact HC0.out); rintro e w' ⟨rfl, ⟨nd, rfl⟩⟩; refine ⟨_, rfl, ?_⟩) | ((with_reducible refine gate_callee (f := 18) rfl ?_); refine goesM_ (some 25) rfl rfl Try.func18 #[.slice A0 l0.length c0] rfl ?_; (with_reducible refine (spec_DrawInverseOf.calls k _ _ l0 t349 t350 _ ?side1 ?side2 A4.out).mono ?_); (case side1 => exact cs (HR0.out)); (case side2 => exact HC0.out); rintro e w8 ⟨rfl, hb⟩; refine ⟨_, rfl, ?_⟩; have n0_ := Aside0.mk (below_step (bs HB) hb); clear HB; have HB := n0_; clear n0_; (try clear hb); (try clear hb2); (try clear hk); (try clear hi)) | ((with_reducible refine gate_callee (f := 19) rfl ?_); refine goesM_ (some 31) rfl rfl Try.func19 #[.int .i64 t349, .int .i64 t350] rfl ?_; (with_reducible refine (impl_InverseOf.calls k t349 t350 t351 t352 _ A5.out).mono ?_); rintro e w' ⟨rfl, ⟨nd, rfl⟩⟩; refine ⟨_, rfl, ?_⟩) | ((with_reducible refine gate_callee (f := 20) rfl ?_); refine goesM_ (some 37) rfl rfl Try.func20 #[.int .i64 t349, .int .i64 t350] rfl ?_; (with_reducible refine (spec_InverseOf.calls k t349 t350 t353 t354 _ A6.out).mono ?_); rintro e w' ⟨rfl, ⟨nd, rfl⟩⟩; refine ⟨_, rfl, ?_⟩))
    (try simp only [Act.put, List.setIfInBounds_toArray, List.set_cons_zero, List.set_cons_succ])
    go_cut [47] (fun v47 wc => ∃ (kq : Nat) (x47_6 : Bool), v47 = .bool x47_6 ∧ Aside0 (laws_FnPrimeNumbers.j0 kq l0 t349 t350 t351 t352 x47_6 = some r) ∧ Aside0 (kq ≤ k) ∧ Aside0 (Below w.heap.size w wc))
    case first =>
      have H := HC7.out
      clear HC7
      by_cases c9 : t352 = t354
      · rw [if_pos c9] at H
        have c9b0 : (t352 == t354) = true := beq_iff_eq.mpr c9
        have c9b1 : (t352 != t354) = false := bne_eq_false_iff_eq.mpr c9
        clear c9
        (first | rw [c9b0] | (simp only [i64_w, i32_w]; rw [c9b0]) | skip)
        have H' := Aside0.mk H
        clear H
        go_wp2
        go_meet
        case rel => exact ⟨_, ((t351 != t353)), ea_, H', ⟨by first | omega | exact Nat.le_refl _⟩, ⟨by repeat (first | (with_reducible first | exact HB.out | apply below_alloc | apply pw_below_drewN | apply below_drew1) | exact HB.out)⟩⟩
      · rw [if_neg c9] at H
        have c9b0 : (t352 == t354) = false := beq_eq_false_iff_ne.mpr c9
        have c9b1 : (t352 != t354) = true := bne_iff_ne.mpr c9
        (first | rw [c9b0] | (simp only [i64_w, i32_w]; rw [c9b0]) | skip)
        have H' := Aside0.mk H
        clear H
        go_wp2
        go_meet
        case rel => exact ⟨_, (true), ea_, H', ⟨by first | omega | exact Nat.le_refl _⟩, ⟨by repeat (first | (with_reducible first | exact HB.out | apply below_alloc | apply pw_below_drewN | apply below_drew1) | exact HB.out)⟩⟩
    case rest =>
      clear HC7
      try clear c1
      try clear c2
      try clear p2
      try clear c3
      try clear c4
      try clear c9
      try clear c9b0
      try clear c9b1
      obtain ⟨kq, x47_6, rfl, HA, HJ6, HB⟩ := hcut
      cases kq with
      | zero => exact absurd HA.out (by simp [laws_FnPrimeNumbers.j0])
      | succ kj6 =>
        have H := HA.out
        clear HA
        simp only [laws_FnPrimeNumbers.j0] at H
        by_cases c10 : x47_6 = true
        · subst c10
          have H1 : (some false) = some r := by rw [if_pos rfl] at H; exact H
          clear H
          have H := H1
          clear H1
          obtain rfl := Option.some.inj H
          go_wp2
          go_ret
          exact ⟨by first | rfl | (simp [errW_none, errW_some] <;> rfl) | (simp [*, errW_none, errW_some] <;> rfl), by repeat (first | (with_reducible first | exact HB.out | apply below_alloc | apply pw_below_drewN | apply below_drew1) | exact HB.out)⟩
        · replace c10 := Bool.eq_false_iff.mpr c10
          subst c10
          have H1 : (if t352 = 0 then ((impl_PowerOf.f kj6 t349 t350 (wrap64 (t349 - 1))).bind fun bt355 => (if bt355.2 = 0 then (if bt355.1 = 1 then (if t349 = 0 then (none) else (if (Int.tmod (wrap64 (t350 * t351)) t349) = 1 then (laws_FnPrimeNumbers.j1 kj6 l0) else (some false))) else (some false)) else (some false))) else (laws_FnPrimeNumbers.j1 kj6 l0)) = some r := by rw [if_neg (show ¬ (false = true) by decide)] at H; exact H
          clear H
          have H := H1
          clear H1
          have HC11 := Aside0.mk H
          clear H
          go_upto_if 49 with (fail)
          go_cut [] (fun wc => ∃ (kq : Nat), Aside0 (laws_FnPrimeNumbers.j1 kq l0 = some r) ∧ Aside0 (kq ≤ kj6) ∧ Aside0 (Below w.heap.size w wc))
          case first =>
            have H := HC11.out
            clear HC11
            by_cases c12 : t352 = 0
            · rw [if_pos c12] at H
              have c12b0 : (t352 == 0) = true := beq_iff_eq.mpr c12
              have c12b1 : (t352 != 0) = false := bne_eq_false_iff_eq.mpr c12
              clear c12
              (first | rw [c12b0] | (simp only [i64_w, i32_w]; rw [c12b0]) | skip)
              replace H := Option.bind_eq_some_iff.mp H
              obtain ⟨⟨t355, t356⟩, A130, H⟩ := H
              have A13 := Aside0.mk A130
              clear A130
              by_cases c14 : t356 = 0
              · rw [if_pos c14] at H
                have c14b0 : (t356 == 0) = true := beq_iff_eq.mpr c14
                have c14b1 : (t356 != 0) = false := bne_eq_false_iff_eq.mpr c14
                clear c14
                by_cases c15 : t355 = 1
                · rw [if_pos c15] at H
                  have c15b0 : (t355 == 1) = true := beq_iff_eq.mpr c15
                  have c15b1 : (t355 != 1) = false := bne_eq_false_iff_eq.mpr c15
                  clear c15
                  by_cases c16 : t349 = 0
                  · rw [if_pos c16] at H
                    exact absurd H (by simp)
                  · rw [if_neg c16] at H
                    have c16b0 : (t349 == 0) = false := beq_eq_false_iff_ne.mpr c16
                    have c16b1 : (t349 != 0) = true := bne_iff_ne.mpr c16
                    by_cases c17 : (Int.tmod (wrap64 (t350 * t351)) t349) = 1
                    · rw [if_pos c17] at H
                      have c17b0 : ((Int.tmod (wrap64 (t350 * t351)) t349) == 1) = true := beq_iff_eq.mpr c17
                      have c17b1 : ((Int.tmod (wrap64 (t350 * t351)) t349) != 1) = false := bne_eq_false_iff_eq.mpr c17
                      clear c17
                      have H' := Aside0.mk H
                      clear H
                      go_wp2_with (first | ((with_reducible refine gate_callee (f := 21) rfl ?_); refine goesM_ (some 55) rfl rfl Try.func21 #[.int .i64 t349, .int .i64 t350, .int .i64 (wrap64 (t349 - 1))] rfl ?_; (with_reducible refine (impl_PowerOf.calls kj6 t349 t350 (wrap64 (t349 - 1)) t355 t356 _ A13.out).mono ?_); rintro e w' ⟨rfl, ⟨nd, rfl⟩⟩; refine ⟨_, rfl, ?_⟩))
                      go_meet
                      case rel => exact ⟨_, H', ⟨by have := HJ6.out; first | omega | exact Nat.le_refl _⟩, ⟨by repeat (first | (with_reducible first | exact HB.out | apply below_alloc | apply pw_below_drewN | apply below_drew1) | exact HB.out)⟩⟩
                    · rw [if_neg c17] at H
                      have c17b0 : ((Int.tmod (wrap64 (t350 * t351)) t349) == 1) = false := beq_eq_false_iff_ne.mpr c17
                      have c17b1 : ((Int.tmod (wrap64 (t350 * t351)) t349) != 1) = true := bne_iff_ne.mpr c17
                      obtain rfl := Option.some.inj H
                      go_wp2_with (first | ((with_reducible refine gate_callee (f := 21) rfl ?_); refine goesM_ (some 55) rfl rfl Try.func21 #[.int .i64 t349, .int .i64 t350, .int .i64 (wrap64 (t349 - 1))] rfl ?_; (with_reducible refine (impl_PowerOf.calls kj6 t349 t350 (wrap64 (t349 - 1)) t355 t356 _ A13.out).mono ?_); rintro e w' ⟨rfl, ⟨nd, rfl⟩⟩; refine ⟨_, rfl, ?_⟩))
                      go_ret
                      exact ⟨by first | rfl | (simp [errW_none, errW_some] <;> rfl) | (simp [*, errW_none, errW_some] <;> rfl), by repeat (first | (with_reducible first | exact HB.out | apply below_alloc | apply pw_below_drewN | apply below_drew1) | exact HB.out)⟩
                · rw [if_neg c15] at H
                  have c15b0 : (t355 == 1) = false := beq_eq_false_iff_ne.mpr c15
                  have c15b1 : (t355 != 1) = true := bne_iff_ne.mpr c15
                  obtain rfl := Option.some.inj H
                  go_wp2_with (first | ((with_reducible refine gate_callee (f := 21) rfl ?_); refine goesM_ (some 55) rfl rfl Try.func21 #[.int .i64 t349, .int .i64 t350, .int .i64 (wrap64 (t349 - 1))] rfl ?_; (with_reducible refine (impl_PowerOf.calls kj6 t349 t350 (wrap64 (t349 - 1)) t355 t356 _ A13.out).mono ?_); rintro e w' ⟨rfl, ⟨nd, rfl⟩⟩; refine ⟨_, rfl, ?_⟩))
                  go_ret
                  exact ⟨by first | rfl | (simp [errW_none, errW_some] <;> rfl) | (simp [*, errW_none, errW_some] <;> rfl), by repeat (first | (with_reducible first | exact HB.out | apply below_alloc | apply pw_below_drewN | apply below_drew1) | exact HB.out)⟩
              · rw [if_neg c14] at H
                have c14b0 : (t356 == 0) = false := beq_eq_false_iff_ne.mpr c14
                have c14b1 : (t356 != 0) = true := bne_iff_ne.mpr c14
                obtain rfl := Option.some.inj H
                go_wp2_with (first | ((with_reducible refine gate_callee (f := 21) rfl ?_); refine goesM_ (some 55) rfl rfl Try.func21 #[.int .i64 t349, .int .i64 t350, .int .i64 (wrap64 (t349 - 1))] rfl ?_; (with_reducible refine (impl_PowerOf.calls kj6 t349 t350 (wrap64 (t349 - 1)) t355 t356 _ A13.out).mono ?_); rintro e w' ⟨rfl, ⟨nd, rfl⟩⟩; refine ⟨_, rfl, ?_⟩))
                go_ret
                exact ⟨by first | rfl | (simp [errW_none, errW_some] <;> rfl) | (simp [*, errW_none, errW_some] <;> rfl), by repeat (first | (with_reducible first | exact HB.out | apply below_alloc | apply pw_below_drewN | apply below_drew1) | exact HB.out)⟩
            · rw [if_neg c12] at H
              have c12b0 : (t352 == 0) = false := beq_eq_false_iff_ne.mpr c12
              have c12b1 : (t352 != 0) = true := bne_iff_ne.mpr c12
              (first | rw [c12b0] | (simp only [i64_w, i32_w]; rw [c12b0]) | skip)
              have H' := Aside0.mk H
              clear H
              go_wp2
              go_meet
              case rel => exact ⟨_, H', ⟨by have := HJ6.out; first | omega | exact Nat.le_refl _⟩, ⟨by repeat (first | (with_reducible first | exact HB.out | apply below_alloc | apply pw_below_drewN | apply below_drew1) | exact HB.out)⟩⟩
          case rest =>
            clear HC11
            try clear c1
            try clear c2
            try clear p2
            try clear c3
            try clear c4
            try clear p6
            try clear c9
            try clear c9b0
            try clear c9b1
            try clear c10
            try clear c12
            try clear c12b0
            try clear c12b1
            try clear c14
            try clear c14b0
            try clear c14b1
            try clear c15
            try clear c15b0
            try clear c15b1
            try clear c16
            try clear c16b0
            try clear c16b1
            try clear c17
            try clear c17b0
            try clear c17b1
            try clear p2
            obtain ⟨kq, HA, HJ10, HB⟩ := hcut
            cases kq with
            | zero => exact absurd HA.out (by simp [laws_FnPrimeNumbers.j1])
            | succ kj10 =>
              have H := HA.out
              clear HA
              simp only [laws_FnPrimeNumbers.j1] at H
              replace H := Option.bind_eq_some_iff.mp H
              obtain ⟨⟨t357, t358, t359⟩, A180, H⟩ := H
              have A18 := Aside0.mk A180
              clear A180
              replace H := Option.bind_eq_some_iff.mp H
              obtain ⟨⟨t360, t361⟩, A190, H⟩ := H
              have A19 := Aside0.mk A190
              clear A190
              replace H := Option.bind_eq_some_iff.mp H
              obtain ⟨⟨t362, t363⟩, A200, H⟩ := H
              have A20 := Aside0.mk A200
              clear A200
              have HC21 := Aside0.mk H
              clear H
              go_upto_region 15 with (first | ((with_reducible refine gate_callee (f := 22) rfl ?_); refine goesM_ (some 74) rfl rfl Try.func22 #[.slice A0 l0.length c0] rfl ?_; (with_reducible refine (spec_DrawPowerOf.calls kj10 _ _ l0 t357 t358 t359 _ ?side1 ?side2 A18.out).mono ?_); (case side1 => exact cs ((Kd.C_below HR0.out HB.out))); (case side2 => exact HC0.out); rintro e w22 ⟨rfl, hb⟩; refine ⟨_, rfl, ?_⟩; have n0_ := Aside0.mk (below_step (bs HB) hb); clear HB; have HB := n0_; clear n0_; (try clear hb); (try clear hb2); (try clear hk); (try clear hi)) | ((with_reducible refine gate_callee (f := 21) rfl ?_); refine goesM_ (some 82) rfl rfl Try.func21 #[.int .i64 t357, .int .i64 t358, .int .i64 t359] rfl ?_; (with_reducible refine (impl_PowerOf.calls kj10 t357 t358 t359 t360 t361 _ A19.out).mono ?_); rintro e w' ⟨rfl, ⟨nd, rfl⟩⟩; refine ⟨_, rfl, ?_⟩) | ((with_reducible refine gate_callee (f := 23) rfl ?_); refine goesM_ (some 89) rfl rfl Try.func23 #[.int .i64 t357, .int .i64 t358, .int .i64 t359] rfl ?_; (with_reducible refine (spec_PowerOf.calls kj10 t357 t358 t359 t362 t363 _ A20.out).mono ?_); rintro e w' ⟨rfl, ⟨nd, rfl⟩⟩; refine ⟨_, rfl, ?_⟩))
              (try simp only [Act.put, List.setIfInBounds_toArray, List.set_cons_zero, List.set_cons_succ])
              go_cut [99] (fun v99 wc => ∃ (kq : Nat) (x99_20 : Bool), v99 = .bool x99_20 ∧ Aside0 (laws_FnPrimeNumbers.j2 kq l0 t357 t358 t359 t360 t361 x99_20 = some r) ∧ Aside0 (kq ≤ kj10) ∧ Aside0 (Below w.heap.size w wc))
              case first =>
                have H := HC21.out
                clear HC21
                by_cases c23 : t361 = t363
                · rw [if_pos c23] at H
                  have c23b0 : (t361 == t363) = true := beq_iff_eq.mpr c23
                  have c23b1 : (t361 != t363) = false := bne_eq_false_iff_eq.mpr c23
                  clear c23
                  (first | rw [c23b0] | (simp only [i64_w, i32_w]; rw [c23b0]) | skip)
                  have H' := Aside0.mk H
                  clear H
                  go_wp2
                  go_meet
                  case rel => exact ⟨_, ((t360 != t362)), ea_, H', ⟨by have := HJ6.out; have := HJ10.out; first | omega | exact Nat.le_refl _⟩, ⟨by repeat (first | (with_reducible first | exact HB.out | apply below_alloc | apply pw_below_drewN | apply below_drew1) | exact HB.out)⟩⟩
                · rw [if_neg c23] at H
                  have c23b0 : (t361 == t363) = false := beq_eq_false_iff_ne.mpr c23
                  have c23b1 : (t361 != t363) = true := bne_iff_ne.mpr c23
                  (first | rw [c23b0] | (simp only [i64_w, i32_w]; rw [c23b0]) | skip)
                  have H' := Aside0.mk H
                  clear H
                  go_wp2
                  go_meet
                  case rel => exact ⟨_, (true), ea_, H', ⟨by have := HJ6.out; have := HJ10.out; first | omega | exact Nat.le_refl _⟩, ⟨by repeat (first | (with_reducible first | exact HB.out | apply below_alloc | apply pw_below_drewN | apply below_drew1) | exact HB.out)⟩⟩
              case rest =>
                clear HC21
                try clear c1
                try clear c2
                try clear p2
                try clear c3
                try clear c4
                try clear p6
                try clear c9
                try clear c9b0
                try clear c9b1
                try clear c10
                try clear c12
                try clear c12b0
                try clear c12b1
                try clear c14
                try clear c14b0
                try clear c14b1
                try clear c15
                try clear c15b0
                try clear c15b1
                try clear c16
                try clear c16b0
                try clear c16b1
                try clear c17
                try clear c17b0
                try clear c17b1
                try clear c18
                try clear c19
                try clear c20
                try clear c21
                try clear c22
                try clear c23
                try clear c23b0
                try clear c23b1
                try clear p2
                try clear p6
                obtain ⟨kq, x99_20, rfl, HA, HJ20, HB⟩ := hcut
                cases kq with
                | zero => exact absurd HA.out (by simp [laws_FnPrimeNumbers.j2])
                | succ kj20 =>
                  have H := HA.out
                  clear HA
                  simp only [laws_FnPrimeNumbers.j2] at H
                  by_cases c24 : x99_20 = true
                  · subst c24
                    have H1 : (some false) = some r := by rw [if_pos rfl] at H; exact H
                    clear H
                    have H := H1
                    clear H1
                    obtain rfl := Option.some.inj H
                    go_wp2
                    go_ret
                    exact ⟨by first | rfl | (simp [errW_none, errW_some] <;> rfl) | (simp [*, errW_none, errW_some] <;> rfl), by repeat (first | (with_reducible first | exact HB.out | apply below_alloc | apply pw_below_drewN | apply below_drew1) | exact HB.out)⟩
                  · replace c24 := Bool.eq_false_iff.mpr c24
                    subst c24
                    have H1 : (if t361 = 0 then (laws_FnPrimeNumbers.j3 kj20 l0 t357 t358 t359 t360 (decide (t359 < 1000000000))) else (laws_FnPrimeNumbers.j3 kj20 l0 t357 t358 t359 t360 false)) = some r := by rw [if_neg (show ¬ (false = true) by decide)] at H; exact H
                    clear H
                    have H := H1
                    clear H1
                    have HC25 := Aside0.mk H
                    clear H
                    go_upto_region 17 with (fail)
                    go_cut [105] (fun v105 wc => ∃ (kq : Nat) (x105_24 : Bool), v105 = .bool x105_24 ∧ Aside0 (laws_FnPrimeNumbers.j3 kq l0 t357 t358 t359 t360 x105_24 = some r) ∧ Aside0 (kq ≤ kj20) ∧ Aside0 (Below w.heap.size w wc))
                    case first =>
                      have H := HC25.out
                      clear HC25
                      by_cases c26 : t361 = 0
                      · rw [if_pos c26] at H
                        have c26b0 : (t361 == 0) = true := beq_iff_eq.mpr c26
                        have c26b1 : (t361 != 0) = false := bne_eq_false_iff_eq.mpr c26
                        clear c26
                        (first | rw [c26b0] | (simp only [i64_w, i32_w]; rw [c26b0]) | skip)
                        have H' := Aside0.mk H
                        clear H
                        go_wp2
                        go_meet
                        case rel => exact ⟨_, (decide (t359 < 1000000000)), ea_, H', ⟨by have := HJ6.out; have := HJ10.out; have := HJ20.out; first | omega | exact Nat.le_refl _⟩, ⟨by repeat (first | (with_reducible first | exact HB.out | apply below_alloc | apply pw_below_drewN | apply below_drew1) | exact HB.out)⟩⟩
                      · rw [if_neg c26] at H
                        have c26b0 : (t361 == 0) = false := beq_eq_false_iff_ne.mpr c26
                        have c26b1 : (t361 != 0) = true := bne_iff_ne.mpr c26
                        (first | rw [c26b0] | (simp only [i64_w, i32_w]; rw [c26b0]) | skip)
                        have H' := Aside0.mk H
                        clear H
                        go_wp2
                        go_meet
                        case rel => exact ⟨_, (false), ea_, H', ⟨by have := HJ6.out; have := HJ10.out; have := HJ20.out; first | omega | exact Nat.le_refl _⟩, ⟨by repeat (first | (with_reducible first | exact HB.out | apply below_alloc | apply pw_below_drewN | apply below_drew1) | exact HB.out)⟩⟩
                    case rest =>
                      clear HC25
                      try clear c1
                      try clear c2
                      try clear p2
                      try clear c3
                      try clear c4
                      try clear p6
                      try clear c9
                      try clear c9b0
                      try clear c9b1
                      try clear c10
                      try clear c12
                      try clear c12b0
                      try clear c12b1
                      try clear c14
                      try clear c14b0
                      try clear c14b1
                      try clear c15
                      try clear c15b0
                      try clear c15b1
                      try clear c16
                      try clear c16b0
                      try clear c16b1
                      try clear c17
                      try clear c17b0
                      try clear c17b1
                      try clear c18
                      try clear c19
                      try clear c20
                      try clear c21
                      try clear c22
                      try clear c23
                      try clear c23b0
                      try clear c23b1
                      try clear c24
                      try clear c26
                      try clear c26b0
                      try clear c26b1
                      try clear p2
                      try clear p6
                      obtain ⟨kq, x105_24, rfl, HA, HJ24, HB⟩ := hcut
                      cases kq with
                      | zero => exact absurd HA.out (by simp [laws_FnPrimeNumbers.j3])
                      | succ kj24 =>
                        have H := HA.out
                        clear HA
                        simp only [laws_FnPrimeNumbers.j3] at H
                        by_cases c27 : x105_24 = true
                        · subst c27
                          have H1 : ((impl_PowerOf.f kj24 t357 t358 (wrap64 (t359 + 1))).bind fun bt364 => (if bt364.2 = 0 then (if t357 = 0 then (none) else (laws_FnPrimeNumbers.j4 kj24 l0 (bt364.1 != (Int.tmod (wrap64 (t360 * t358)) t357)))) else (laws_FnPrimeNumbers.j4 kj24 l0 true))) = some r := by rw [if_pos rfl] at H; exact H
                          clear H
                          have H := H1
                          clear H1
                          replace H := Option.bind_eq_some_iff.mp H
                          obtain ⟨⟨t364, t365⟩, A280, H⟩ := H
                          have A28 := Aside0.mk A280
                          clear A280
                          have HC29 := Aside0.mk H
                          clear H
                          go_upto_region 19 with (first | ((with_reducible refine gate_callee (f := 21) rfl ?_); refine goesM_ (some 111) rfl rfl Try.func21 #[.int .i64 t357, .int .i64 t358, .int .i64 (wrap64 (t359 + 1))] rfl ?_; (with_reducible refine (impl_PowerOf.calls kj24 t357 t358 (wrap64 (t359 + 1)) t364 t365 _ A28.out).mono ?_); rintro e w' ⟨rfl, ⟨nd, rfl⟩⟩; refine ⟨_, rfl, ?_⟩))
                          (try simp only [Act.put, List.setIfInBounds_toArray, List.set_cons_zero, List.set_cons_succ])
                          go_cut [124] (fun v124 wc => ∃ (kq : Nat) (x124_28 : Bool), v124 = .bool x124_28 ∧ Aside0 (laws_FnPrimeNumbers.j4 kq l0 x124_28 = some r) ∧ Aside0 (kq ≤ kj24) ∧ Aside0 (Below w.heap.size w wc))
                          case first =>
                            have H := HC29.out
                            clear HC29
                            by_cases c30 : t365 = 0
                            · rw [if_pos c30] at H
                              have c30b0 : (t365 == 0) = true := beq_iff_eq.mpr c30
                              have c30b1 : (t365 != 0) = false := bne_eq_false_iff_eq.mpr c30
                              clear c30
                              (first | rw [c30b0] | (simp only [i64_w, i32_w]; rw [c30b0]) | skip)
                              by_cases c31 : t357 = 0
                              · rw [if_pos c31] at H
                                exact absurd H (by simp)
                              · rw [if_neg c31] at H
                                have c31b0 : (t357 == 0) = false := beq_eq_false_iff_ne.mpr c31
                                have c31b1 : (t357 != 0) = true := bne_iff_ne.mpr c31
                                have H' := Aside0.mk H
                                clear H
                                go_wp2
                                go_meet
                                case rel => exact ⟨_, ((t364 != (Int.tmod (wrap64 (t360 * t358)) t357))), ea_, H', ⟨by have := HJ6.out; have := HJ10.out; have := HJ20.out; have := HJ24.out; first | omega | exact Nat.le_refl _⟩, ⟨by repeat (first | (with_reducible first | exact HB.out | apply below_alloc | apply pw_below_drewN | apply below_drew1) | exact HB.out)⟩⟩
                            · rw [if_neg c30] at H
                              have c30b0 : (t365 == 0) = false := beq_eq_false_iff_ne.mpr c30
                              have c30b1 : (t365 != 0) = true := bne_iff_ne.mpr c30
                              (first | rw [c30b0] | (simp only [i64_w, i32_w]; rw [c30b0]) | skip)
                              have H' := Aside0.mk H
                              clear H
                              go_wp2
                              go_meet
                              case rel => exact ⟨_, (true), ea_, H', ⟨by have := HJ6.out; have := HJ10.out; have := HJ20.out; have := HJ24.out; first | omega | exact Nat.le_refl _⟩, ⟨by repeat (first | (with_reducible first | exact HB.out | apply below_alloc | apply pw_below_drewN | apply below_drew1) | exact HB.out)⟩⟩
                          case rest =>
                            clear HC29
                            try clear c1
                            try clear c2
                            try clear p2
                            try clear c3
                            try clear c4
                            try clear p6
                            try clear c9
                            try clear c9b0
                            try clear c9b1
                            try clear c10
                            try clear c12
                            try clear c12b0
                            try clear c12b1
                            try clear c14
                            try clear c14b0
                            try clear c14b1
                            try clear c15
                            try clear c15b0
                            try clear c15b1
                            try clear c16
                            try clear c16b0
                            try clear c16b1
                            try clear c17
                            try clear c17b0
                            try clear c17b1
                            try clear c18
                            try clear c19
                            try clear c20
                            try clear c21
                            try clear c22
                            try clear c23
                            try clear c23b0
                            try clear c23b1
                            try clear c24
                            try clear c26
                            try clear c26b0
                            try clear c26b1
                            try clear c27
                            try clear c30
                            try clear c30b0
                            try clear c30b1
                            try clear c31
                            try clear c31b0
                            try clear c31b1
                            try clear p2
                            try clear p6
                            obtain ⟨kq, x124_28, rfl, HA, HJ28, HB⟩ := hcut
                            cases kq with
                            | zero => exact absurd HA.out (by simp [laws_FnPrimeNumbers.j4])
                            | succ kj28 =>
                              have H := HA.out
                              clear HA
                              simp only [laws_FnPrimeNumbers.j4] at H
                              by_cases c32 : x124_28 = true
                              · subst c32
                                have H1 : (some false) = some r := by rw [if_pos rfl] at H; exact H
                                clear H
                                have H := H1
                                clear H1
                                obtain rfl := Option.some.inj H
                                go_wp2
                                go_ret
                                exact ⟨by first | rfl | (simp [errW_none, errW_some] <;> rfl) | (simp [*, errW_none, errW_some] <;> rfl), by repeat (first | (with_reducible first | exact HB.out | apply below_alloc | apply pw_below_drewN | apply below_drew1) | exact HB.out)⟩
                              · replace c32 := Bool.eq_false_iff.mpr c32
                                subst c32
                                have H1 : ((spec_DrawIsPrime.f kj28 l0).bind fun t366 => ((impl_IsPrime.f kj28 t366).bind fun t367 => ((spec_IsPrime.f kj28 t366).bind fun t368 => (some (t367 == t368))))) = some r := by rw [if_neg (show ¬ (false = true) by decide)] at H; exact H
                                clear H
                                have H := H1
                                clear H1
                                replace H := Option.bind_eq_some_iff.mp H
                                obtain ⟨t366, A330, H⟩ := H
                                have A33 := Aside0.mk A330
                                clear A330
                                replace H := Option.bind_eq_some_iff.mp H
                                obtain ⟨t367, A340, H⟩ := H
                                have A34 := Aside0.mk A340
                                clear A340
                                replace H := Option.bind_eq_some_iff.mp H
                                obtain ⟨t368, A350, H⟩ := H
                                have A35 := Aside0.mk A350
                                clear A350
                                obtain rfl := Option.some.inj H
                                go_wp2_with (first | ((with_reducible refine gate_callee (f := 24) rfl ?_); refine goesM_ (some 126) rfl rfl Try.func24 #[.slice A0 l0.length c0] rfl ?_; (with_reducible refine (spec_DrawIsPrime.calls kj28 _ _ l0 t366 _ ?side1 ?side2 A33.out).mono ?_); (case side1 => exact cs ((Kd.C_below HR0.out HB.out))); (case side2 => exact HC0.out); rintro e w36 ⟨rfl, hb⟩; refine ⟨_, rfl, ?_⟩; have n0_ := Aside0.mk (below_step (bs HB) hb); clear HB; have HB := n0_; clear n0_; (try clear hb); (try clear hb2); (try clear hk); (try clear hi)) | ((with_reducible refine gate_callee (f := 25) rfl ?_); refine goesM_ (some 128) rfl rfl Try.func25 #[.int .i64 t366] rfl ?_; (with_reducible refine (impl_IsPrime.calls kj28 t366 t367 _ A34.out).mono ?_); rintro e w' ⟨rfl, ⟨nd, rfl⟩⟩; refine ⟨_, rfl, ?_⟩) | ((with_reducible refine gate_callee (f := 26) rfl ?_); refine goesM_ (some 130) rfl rfl Try.func26 #[.int .i64 t366] rfl ?_; (with_reducible refine (spec_IsPrime.calls kj28 t366 t368 _ A35.out).mono ?_); rintro e w' ⟨rfl, ⟨nd, rfl⟩⟩; refine ⟨_, rfl, ?_⟩))
                                go_ret
                                exact ⟨by first | rfl | (simp [errW_none, errW_some] <;> rfl) | (simp [*, errW_none, errW_some] <;> rfl), by repeat (first | (with_reducible first | exact HB.out | apply below_alloc | apply pw_below_drewN | apply below_drew1) | exact HB.out)⟩
                        · replace c27 := Bool.eq_false_iff.mpr c27
                          subst c27
                          have H1 : ((spec_DrawIsPrime.f kj24 l0).bind fun t369 => ((impl_IsPrime.f kj24 t369).bind fun t370 => ((spec_IsPrime.f kj24 t369).bind fun t371 => (some (t370 == t371))))) = some r := by rw [if_neg (show ¬ (false = true) by decide)] at H; exact H
                          clear H
                          have H := H1
                          clear H1
                          replace H := Option.bind_eq_some_iff.mp H
                          obtain ⟨t369, A370, H⟩ := H
                          have A37 := Aside0.mk A370
                          clear A370
                          replace H := Option.bind_eq_some_iff.mp H
                          obtain ⟨t370, A380, H⟩ := H
                          have A38 := Aside0.mk A380
                          clear A380
                          replace H := Option.bind_eq_some_iff.mp H
                          obtain ⟨t371, A390, H⟩ := H
                          have A39 := Aside0.mk A390
                          clear A390
                          obtain rfl := Option.some.inj H
                          go_wp2_with (first | ((with_reducible refine gate_callee (f := 24) rfl ?_); refine goesM_ (some 126) rfl rfl Try.func24 #[.slice A0 l0.length c0] rfl ?_; (with_reducible refine (spec_DrawIsPrime.calls kj24 _ _ l0 t369 _ ?side1 ?side2 A37.out).mono ?_); (case side1 => exact cs ((Kd.C_below HR0.out HB.out))); (case side2 => exact HC0.out); rintro e w40 ⟨rfl, hb⟩; refine ⟨_, rfl, ?_⟩; have n0_ := Aside0.mk (below_step (bs HB) hb); clear HB; have HB := n0_; clear n0_; (try clear hb); (try clear hb2); (try clear hk); (try clear hi)) | ((with_reducible refine gate_callee (f := 25) rfl ?_); refine goesM_ (some 128) rfl rfl Try.func25 #[.int .i64 t369] rfl ?_; (with_reducible refine (impl_IsPrime.calls kj24 t369 t370 _ A38.out).mono ?_); rintro e w' ⟨rfl, ⟨nd, rfl⟩⟩; refine ⟨_, rfl, ?_⟩) | ((with_reducible refine gate_callee (f := 26) rfl ?_); refine goesM_ (some 130) rfl rfl Try.func26 #[.int .i64 t369] rfl ?_; (with_reducible refine (spec_IsPrime.calls kj24 t369 t371 _ A39.out).mono ?_); rintro e w' ⟨rfl, ⟨nd, rfl⟩⟩; refine ⟨_, rfl, ?_⟩))
                          go_ret
                          exact ⟨by first | rfl | (simp [errW_none, errW_some] <;> rfl) | (simp [*, errW_none, errW_some] <;> rfl), by repeat (first | (with_reducible first | exact HB.out | apply below_alloc | apply pw_below_drewN | apply below_drew1) | exact HB.out)⟩

/-- THE ONE PURE STATEMENT of laws_FnPrimeNumbers: yours. -/
def laws_FnPrimeNumbers.Pure : Prop := ∀ (l0 : List Int), l0.length ≤ maxLen → l0.length * 1 ≤ 140737488351232 → (∀ x ∈ l0, (Lit.int .u8 x).wf = true) → ∃ k, laws_FnPrimeNumbers.f k l0 = some true
theorem laws_FnPrimeNumbers.walk (P : laws_FnPrimeNumbers.Pure) (a0 : Option Addr) (len0 cap0 : Nat) (z0 : List Int) (w : World) (w0 : (a0 = none ∧ len0 = 0 ∧ cap0 = 0 ∧ z0 = []) ∨ ∃ x, a0 = some x ∧ len0 ≤ cap0 ∧ cap0 ≤ maxLen ∧ z0.length = cap0 ∧ (∀ i, i < z0.length → w.cell? (x.add i) = some (.int .u8 (z0.getD i 0))) ∧ ∀ n ∈ z0, (Lit.int .u8 n).wf = true) (y0 : len0 * 1 ≤ 140737488351232) :
    Calls Try.prog 4 #[.slice a0 len0 cap0] w fun e w' => e = .returned (.bool true) ∧ Below w.heap.size w w' := by
  obtain ⟨l0, rfl, hr0, hm0, hw0, hc0⟩ := ReadsInt.ofRowC w0
  obtain ⟨k, h⟩ := P l0 hm0 y0 hw0
  refine (laws_FnPrimeNumbers.calls k _ _ l0 true w (Kd.C_of_reads (d := (0 : Int)) (h1 := fun _ => rfl) hr0) hc0 h).mono ?_
  rintro e w' ⟨rfl, hd⟩
  exact ⟨rfl, hd⟩

end Go.Proofs.Ytepigphelclpcaa.H
