/- Joined texts of a claim: the printed functions and what is proved of them. -/
import Derived.Test.YtiffnigjblbakaaHx0
import Derived.Test.YtiffnigjblbakaaMa3
import Derived.Test.YtiffnigjblbakaaMa4
import Derived.Test.YtiffnigjblbakaaMa7
-- written by wip/drive.py (the session's own program) over the translation; Lean checks it
namespace Go.Proofs.Ytiffnigjblbakaa.H
open Go.RowKit Go.Proofs.YtiffnigjblbakaaW.PrintWords Go.Proofs.YtiffnigjblbakaaW.PrintLast Go.Proofs.YtiffnigjblbakaaW.PrintMore
attribute [local go_sem] max2_int min2_int max_two min_two max_three min_three max_four min_four   -- for this text's walks alone
set_option linter.unusedVariables false
set_option linter.unusedSimpArgs false

/-! ### laws_FnExactMomentsOfNodes: function 3 -/
mutual
def laws_FnExactMomentsOfNodes.j0 : Nat → Int → List Int → List Int → Int → Int → List Int → List Int → Int → Bool → Int → List Int → Int → List Int → Option (Bool)
  | 0, _, _, _, _, _, _, _, _, _, _, _, _, _ => none
  | k + 1, x0, x1, x2, x3, x10, x11, x12, x14, x56, x315000, x315001, x327000, x327001 => if x56 = true then (some false) else ((laws_toInt64S.f k x1).bind fun t328 => ((laws_eqInt64S.f k x11 t328).bind fun t331 => (if t331 = true then ((laws_toInt64S.f k x2).bind fun t332 => ((laws_eqInt64S.f k x12 t332).bind fun t335 => (if t335 = true then ((laws_markInt64S.f k x11 1).bind fun bt336 => ((laws_markInt64S.f k x12 bt336.1).bind fun bt338 => (if bt338.1 < 0 then (laws_FnExactMomentsOfNodes.j1 k x0 x1 x2 x3 x10 true x315000 x315001 x327000 x327001) else ((laws_eqMoments.f k x327000 x327001 x315000 x315001).bind fun t340 => (if t340 = true then (laws_FnExactMomentsOfNodes.j1 k x0 x1 x2 x3 x10 (x14 != x10) x315000 x315001 x327000 x327001) else (laws_FnExactMomentsOfNodes.j1 k x0 x1 x2 x3 x10 true x315000 x315001 x327000 x327001)))))) else (some false)))) else (some false))))
def laws_FnExactMomentsOfNodes.j1 : Nat → Int → List Int → List Int → Int → Int → Bool → Int → List Int → Int → List Int → Option (Bool)
  | 0, _, _, _, _, _, _, _, _, _, _ => none
  | k + 1, x0, x1, x2, x3, x10, x85, x315000, x315001, x327000, x327001 => if x85 = true then (some false) else ((laws_markMoments.f k x327000 x327001 1).bind fun bt341 => ((laws_heldMoments.f k x327000 bt341.2 1).bind fun t343 => (if t343 < 0 then (some false) else (if t343 = bt341.1 then ((laws_toInt64S.f k x1).bind fun t344 => ((laws_toInt64S.f k x2).bind fun t347 => ((impl_MomentsOfNodes.f k x0 t344 t347 x3).bind fun bt350 => ((laws_eqMoments.f k bt350.1 bt350.2.1 x315000 x315001).bind fun t356 => (if t356 = true then (laws_FnExactMomentsOfNodes.j2 k bt341.1 (bt350.2.2 != x10) x327000 bt341.2) else (laws_FnExactMomentsOfNodes.j2 k bt341.1 true x327000 bt341.2)))))) else (some false)))))
def laws_FnExactMomentsOfNodes.j2 : Nat → Int → Bool → Int → List Int → Option (Bool)
  | 0, _, _, _, _ => none
  | k + 1, x16, x115, x327000, x327001 => if x115 = true then (some false) else ((laws_heldMoments.f k x327000 x327001 1).bind fun t357 => (if t357 < 0 then (some false) else (if t357 = x16 then (some true) else (some false))))
end
def laws_FnExactMomentsOfNodes.f (k : Nat) (a0 : Int) (l1 : List Int) (l2 : List Int) (a3 : Int) : Option (Bool) := if (l1.length : Int) > 1048576 then (some true) else (if (l2.length : Int) > 1048576 then (some true) else ((laws_toInt64S.f k l1).bind fun t303 => ((laws_toInt64S.f k l2).bind fun t306 => ((spec_MomentsOfNodes.f k a0 t303 t306 a3).bind fun bt309 => ((laws_toInt64S.f k l1).bind fun t315 => ((laws_toInt64S.f k l2).bind fun t318 => ((impl_MomentsOfNodes.f k a0 t315 t318 a3).bind fun bt321 => ((laws_eqMoments.f k bt321.1 bt321.2.1 bt309.1 bt309.2.1).bind fun t327 => (if t327 = true then (laws_FnExactMomentsOfNodes.j0 k a0 l1 l2 a3 bt309.2.2 t315 t318 bt321.2.2 (bt321.2.2 != bt309.2.2) bt309.1 bt309.2.1 bt321.1 bt321.2.1) else (laws_FnExactMomentsOfNodes.j0 k a0 l1 l2 a3 bt309.2.2 t315 t318 bt321.2.2 true bt309.1 bt309.2.1 bt321.1 bt321.2.1))))))))))
theorem laws_FnExactMomentsOfNodes.mono_l : ∀ k, (∀ y0 y1 y2 y3 y4 y5 y6 y7 y8 y9 y10 y11 y12, LeO (laws_FnExactMomentsOfNodes.j0 k y0 y1 y2 y3 y4 y5 y6 y7 y8 y9 y10 y11 y12) (laws_FnExactMomentsOfNodes.j0 (k + 1) y0 y1 y2 y3 y4 y5 y6 y7 y8 y9 y10 y11 y12)) ∧ (∀ y0 y1 y2 y3 y4 y5 y6 y7 y8 y9, LeO (laws_FnExactMomentsOfNodes.j1 k y0 y1 y2 y3 y4 y5 y6 y7 y8 y9) (laws_FnExactMomentsOfNodes.j1 (k + 1) y0 y1 y2 y3 y4 y5 y6 y7 y8 y9)) ∧ (∀ y0 y1 y2 y3, LeO (laws_FnExactMomentsOfNodes.j2 k y0 y1 y2 y3) (laws_FnExactMomentsOfNodes.j2 (k + 1) y0 y1 y2 y3))
  | 0 => ⟨fun _ _ _ _ _ _ _ _ _ _ _ _ _ r h => by simp [laws_FnExactMomentsOfNodes.j0] at h, fun _ _ _ _ _ _ _ _ _ _ r h => by simp [laws_FnExactMomentsOfNodes.j1] at h, fun _ _ _ _ r h => by simp [laws_FnExactMomentsOfNodes.j2] at h⟩
  | k + 1 => by
    obtain ⟨ih0, ih1, ih2⟩ := laws_FnExactMomentsOfNodes.mono_l k
    refine ⟨?_, ?_, ?_⟩
    · intro y0 y1 y2 y3 y4 y5 y6 y7 y8 y9 y10 y11 y12
      unfold laws_FnExactMomentsOfNodes.j0
      repeat' first
      | (with_reducible exact ih0 _ _ _ _ _ _ _ _ _ _ _ _ _)
      | (with_reducible exact ih1 _ _ _ _ _ _ _ _ _ _)
      | (with_reducible exact ih2 _ _ _ _)
      | (with_reducible exact impl_MomentsOfNodes.mono _ _ _ _ _)
      | (with_reducible exact laws_eqInt64S.mono _ _ _)
      | (with_reducible exact laws_eqMoments.mono _ _ _ _ _)
      | (with_reducible exact laws_heldMoments.mono _ _ _ _)
      | (with_reducible exact laws_markInt64S.mono _ _ _)
      | (with_reducible exact laws_markMoments.mono _ _ _ _)
      | (with_reducible exact laws_toInt64S.mono _ _)
      | (with_reducible exact spec_MomentsOfNodes.mono _ _ _ _ _)
      | (with_reducible exact LeO.refl _)
      | (with_reducible exact LeO.none _)
      | (with_reducible refine LeO.ite ?_ ?_)
      | (with_reducible refine LeO.bind ?_ (fun _ => ?_))
      | exact ih0 _ _ _ _ _ _ _ _ _ _ _ _ _
      | exact ih1 _ _ _ _ _ _ _ _ _ _
      | exact ih2 _ _ _ _
      | exact impl_MomentsOfNodes.mono _ _ _ _ _
      | exact laws_eqInt64S.mono _ _ _
      | exact laws_eqMoments.mono _ _ _ _ _
      | exact laws_heldMoments.mono _ _ _ _
      | exact laws_markInt64S.mono _ _ _
      | exact laws_markMoments.mono _ _ _ _
      | exact laws_toInt64S.mono _ _
      | exact spec_MomentsOfNodes.mono _ _ _ _ _
      | exact LeO.none _
      | refine LeO.ite ?_ ?_
      | refine LeO.bind ?_ (fun _ => ?_)
    · intro y0 y1 y2 y3 y4 y5 y6 y7 y8 y9
      unfold laws_FnExactMomentsOfNodes.j1
      repeat' first
      | (with_reducible exact ih0 _ _ _ _ _ _ _ _ _ _ _ _ _)
      | (with_reducible exact ih1 _ _ _ _ _ _ _ _ _ _)
      | (with_reducible exact ih2 _ _ _ _)
      | (with_reducible exact impl_MomentsOfNodes.mono _ _ _ _ _)
      | (with_reducible exact laws_eqInt64S.mono _ _ _)
      | (with_reducible exact laws_eqMoments.mono _ _ _ _ _)
      | (with_reducible exact laws_heldMoments.mono _ _ _ _)
      | (with_reducible exact laws_markInt64S.mono _ _ _)
      | (with_reducible exact laws_markMoments.mono _ _ _ _)
      | (with_reducible exact laws_toInt64S.mono _ _)
      | (with_reducible exact spec_MomentsOfNodes.mono _ _ _ _ _)
      | (with_reducible exact LeO.refl _)
      | (with_reducible exact LeO.none _)
      | (with_reducible refine LeO.ite ?_ ?_)
      | (with_reducible refine LeO.bind ?_ (fun _ => ?_))
      | exact ih0 _ _ _ _ _ _ _ _ _ _ _ _ _
      | exact ih1 _ _ _ _ _ _ _ _ _ _
      | exact ih2 _ _ _ _
      | exact impl_MomentsOfNodes.mono _ _ _ _ _
      | exact laws_eqInt64S.mono _ _ _
      | exact laws_eqMoments.mono _ _ _ _ _
      | exact laws_heldMoments.mono _ _ _ _
      | exact laws_markInt64S.mono _ _ _
      | exact laws_markMoments.mono _ _ _ _
      | exact laws_toInt64S.mono _ _
      | exact spec_MomentsOfNodes.mono _ _ _ _ _
      | exact LeO.none _
      | refine LeO.ite ?_ ?_
      | refine LeO.bind ?_ (fun _ => ?_)
    · intro y0 y1 y2 y3
      unfold laws_FnExactMomentsOfNodes.j2
      repeat' first
      | (with_reducible exact ih0 _ _ _ _ _ _ _ _ _ _ _ _ _)
      | (with_reducible exact ih1 _ _ _ _ _ _ _ _ _ _)
      | (with_reducible exact ih2 _ _ _ _)
      | (with_reducible exact impl_MomentsOfNodes.mono _ _ _ _ _)
      | (with_reducible exact laws_eqInt64S.mono _ _ _)
      | (with_reducible exact laws_eqMoments.mono _ _ _ _ _)
      | (with_reducible exact laws_heldMoments.mono _ _ _ _)
      | (with_reducible exact laws_markInt64S.mono _ _ _)
      | (with_reducible exact laws_markMoments.mono _ _ _ _)
      | (with_reducible exact laws_toInt64S.mono _ _)
      | (with_reducible exact spec_MomentsOfNodes.mono _ _ _ _ _)
      | (with_reducible exact LeO.refl _)
      | (with_reducible exact LeO.none _)
      | (with_reducible refine LeO.ite ?_ ?_)
      | (with_reducible refine LeO.bind ?_ (fun _ => ?_))
      | exact ih0 _ _ _ _ _ _ _ _ _ _ _ _ _
      | exact ih1 _ _ _ _ _ _ _ _ _ _
      | exact ih2 _ _ _ _
      | exact impl_MomentsOfNodes.mono _ _ _ _ _
      | exact laws_eqInt64S.mono _ _ _
      | exact laws_eqMoments.mono _ _ _ _ _
      | exact laws_heldMoments.mono _ _ _ _
      | exact laws_markInt64S.mono _ _ _
      | exact laws_markMoments.mono _ _ _ _
      | exact laws_toInt64S.mono _ _
      | exact spec_MomentsOfNodes.mono _ _ _ _ _
      | exact LeO.none _
      | refine LeO.ite ?_ ?_
      | refine LeO.bind ?_ (fun _ => ?_)
theorem laws_FnExactMomentsOfNodes.mono : ∀ a0 a1 a2 a3 k, LeO (laws_FnExactMomentsOfNodes.f k a0 a1 a2 a3) (laws_FnExactMomentsOfNodes.f (k + 1) a0 a1 a2 a3) := by
  intro a0 a1 a2 a3 k
  obtain ⟨ih0, ih1, ih2⟩ := laws_FnExactMomentsOfNodes.mono_l k
  unfold laws_FnExactMomentsOfNodes.f
  repeat' first
      | (with_reducible exact ih0 _ _ _ _ _ _ _ _ _ _ _ _ _)
      | (with_reducible exact ih1 _ _ _ _ _ _ _ _ _ _)
      | (with_reducible exact ih2 _ _ _ _)
      | (with_reducible exact impl_MomentsOfNodes.mono _ _ _ _ _)
      | (with_reducible exact laws_eqInt64S.mono _ _ _)
      | (with_reducible exact laws_eqMoments.mono _ _ _ _ _)
      | (with_reducible exact laws_heldMoments.mono _ _ _ _)
      | (with_reducible exact laws_markInt64S.mono _ _ _)
      | (with_reducible exact laws_markMoments.mono _ _ _ _)
      | (with_reducible exact laws_toInt64S.mono _ _)
      | (with_reducible exact spec_MomentsOfNodes.mono _ _ _ _ _)
      | (with_reducible exact LeO.refl _)
      | (with_reducible exact LeO.none _)
      | (with_reducible refine LeO.ite ?_ ?_)
      | (with_reducible refine LeO.bind ?_ (fun _ => ?_))
      | exact ih0 _ _ _ _ _ _ _ _ _ _ _ _ _
      | exact ih1 _ _ _ _ _ _ _ _ _ _
      | exact ih2 _ _ _ _
      | exact impl_MomentsOfNodes.mono _ _ _ _ _
      | exact laws_eqInt64S.mono _ _ _
      | exact laws_eqMoments.mono _ _ _ _ _
      | exact laws_heldMoments.mono _ _ _ _
      | exact laws_markInt64S.mono _ _ _
      | exact laws_markMoments.mono _ _ _ _
      | exact laws_toInt64S.mono _ _
      | exact spec_MomentsOfNodes.mono _ _ _ _ _
      | exact LeO.none _
      | refine LeO.ite ?_ ?_
      | refine LeO.bind ?_ (fun _ => ?_)
set_option maxHeartbeats 8000000 in
set_option maxRecDepth 100000 in
theorem laws_FnExactMomentsOfNodes.calls (k : Nat) (a0 : Int) (A1 : Option Addr) (c1 : Nat) (l1 : List Int) (A2 : Option Addr) (c2 : Nat) (l2 : List Int) (a3 : Int) (r : Bool) (w : World) (hr1 : Kd.C (Kd.int .i64) w A1 l1.length l1) (hc1 : l1.length ≤ c1) (hr2 : Kd.C (Kd.int .i64) w A2 l2.length l2) (hc2 : l2.length ≤ c2) (h : laws_FnExactMomentsOfNodes.f k a0 l1 l2 a3 = some r) :
    Calls Try.prog 3 #[.int .i64 a0, .slice A1 l1.length c1, .slice A2 l2.length c2, .int .i64 a3] w fun e w' => e = .returned (.bool r) ∧ Below w.heap.size w w' := by
  have hu24 := Try.underlying24
  have HR1 := Aside0.mk hr1
  have HC1 := Aside0.mk hc1
  clear hr1 hc1
  have HR2 := Aside0.mk hr2
  have HC2 := Aside0.mk hc2
  clear hr2 hc2
  have HB := Aside0.mk (Below.refl w.heap.size w)
  have H : (if (l1.length : Int) > 1048576 then (some true) else (if (l2.length : Int) > 1048576 then (some true) else ((laws_toInt64S.f k l1).bind fun t303 => ((laws_toInt64S.f k l2).bind fun t306 => ((spec_MomentsOfNodes.f k a0 t303 t306 a3).bind fun bt309 => ((laws_toInt64S.f k l1).bind fun t315 => ((laws_toInt64S.f k l2).bind fun t318 => ((impl_MomentsOfNodes.f k a0 t315 t318 a3).bind fun bt321 => ((laws_eqMoments.f k bt321.1 bt321.2.1 bt309.1 bt309.2.1).bind fun t327 => (if t327 = true then (laws_FnExactMomentsOfNodes.j0 k a0 l1 l2 a3 bt309.2.2 t315 t318 bt321.2.2 (bt321.2.2 != bt309.2.2) bt309.1 bt309.2.1 bt321.1 bt321.2.1) else (laws_FnExactMomentsOfNodes.j0 k a0 l1 l2 a3 bt309.2.2 t315 t318 bt321.2.2 true bt309.1 bt309.2.1 bt321.1 bt321.2.1))))))))))) = some r := h
  clear h
  by_cases c5 : (l1.length : Int) > 1048576
  · rw [if_pos c5] at H
    have c5b0 : decide (1048576 < (l1.length : Int)) = true := decide_eq_true c5
    have c5b1 : decide (1048576 < l1.length) = true := decide_eq_true (by omega)
    clear c5
    obtain rfl := Option.some.inj H
    go_enter Try.func3, Try.ntmps3
    go_wp2
    go_ret
    exact ⟨by first | rfl | (simp [errW_none, errW_some] <;> rfl) | (simp [*, errW_none, errW_some] <;> rfl), by repeat (first | (with_reducible first | exact HB.out | apply below_alloc | apply pw_below_drewN | apply below_drew1) | exact HB.out)⟩
  · rw [if_neg c5] at H
    have c5b0 : decide (1048576 < (l1.length : Int)) = false := decide_eq_false c5
    have c5b1 : decide (1048576 < l1.length) = false := decide_eq_false (by omega)
    clear c5
    by_cases c6 : (l2.length : Int) > 1048576
    · rw [if_pos c6] at H
      have c6b0 : decide (1048576 < (l2.length : Int)) = true := decide_eq_true c6
      have c6b1 : decide (1048576 < l2.length) = true := decide_eq_true (by omega)
      clear c6
      obtain rfl := Option.some.inj H
      go_enter Try.func3, Try.ntmps3
      go_wp2
      go_ret
      exact ⟨by first | rfl | (simp [errW_none, errW_some] <;> rfl) | (simp [*, errW_none, errW_some] <;> rfl), by repeat (first | (with_reducible first | exact HB.out | apply below_alloc | apply pw_below_drewN | apply below_drew1) | exact HB.out)⟩
    · rw [if_neg c6] at H
      have c6b0 : decide (1048576 < (l2.length : Int)) = false := decide_eq_false c6
      have c6b1 : decide (1048576 < l2.length) = false := decide_eq_false (by omega)
      clear c6
      replace H := Option.bind_eq_some_iff.mp H
      obtain ⟨t303, A70, H⟩ := H
      have A7 := Aside0.mk A70
      clear A70
      replace H := Option.bind_eq_some_iff.mp H
      obtain ⟨t306, A80, H⟩ := H
      have A8 := Aside0.mk A80
      clear A80
      replace H := Option.bind_eq_some_iff.mp H
      obtain ⟨⟨t309, t310, t313⟩, A90, H⟩ := H
      have A9 := Aside0.mk A90
      clear A90
      replace H := Option.bind_eq_some_iff.mp H
      obtain ⟨t315, A100, H⟩ := H
      have A10 := Aside0.mk A100
      clear A100
      replace H := Option.bind_eq_some_iff.mp H
      obtain ⟨t318, A110, H⟩ := H
      have A11 := Aside0.mk A110
      clear A110
      replace H := Option.bind_eq_some_iff.mp H
      obtain ⟨⟨t321, t322, t325⟩, A120, H⟩ := H
      have A12 := Aside0.mk A120
      clear A120
      have HC13 := Aside0.mk H
      clear H
      go_enter Try.func3, Try.ntmps3
      go_upto_region 9 with (first | ((with_reducible refine gate_callee (f := 9) rfl ?_); refine goesM_ (some 29) rfl rfl Try.func9 #[.slice A1 l1.length c1] rfl ?_; (with_reducible refine (laws_toInt64S.calls k _ _ l1 t303 _ ?side1 ?side2 A7.out).mono ?_); (case side1 => exact cs (HR1.out)); (case side2 => exact HC1.out); rintro e w14 ⟨v304, rfl, ho0, hb⟩; refine ⟨_, rfl, ?_⟩; have n0_ := Aside0.mk (Kd.R_lower ho0 (below_size (bs HB))); have n1_ := Aside0.mk (below_step (bs HB) hb); clear HB; have HO305 := n0_; have HB := n1_; clear n0_ n1_; (try clear hb); (try clear hb2); (try clear hk); (try clear hi); (try clear ho0)) | ((with_reducible refine gate_callee (f := 9) rfl ?_); refine goesM_ (some 31) rfl rfl Try.func9 #[.slice A2 l2.length c2] rfl ?_; (with_reducible refine (laws_toInt64S.calls k _ _ l2 t306 _ ?side1 ?side2 A8.out).mono ?_); (case side1 => exact cs ((Kd.C_below HR2.out HB.out))); (case side2 => exact HC2.out); rintro e w15 ⟨v307, rfl, ho0, hb⟩; refine ⟨_, rfl, ?_⟩; have n0_ := Aside0.mk (Kd.R_elder' (rs HO305) (Kd.R_base ho0) hb); have n1_ := Aside0.mk (Kd.R_lower (Kd.R_new' ho0 (Kd.R_lt (rs HO305))) (below_size (bs HB))); have n2_ := Aside0.mk (below_step (bs HB) hb); clear HO305; clear HB; have HO305 := n0_; have HO308 := n1_; have HB := n2_; clear n0_ n1_ n2_; (try clear hb); (try clear hb2); (try clear hk); (try clear hi); (try clear ho0); obtain ⟨Ao16, co16, eo16⟩ := Kd.R_slice HO305.out; subst eo16; obtain ⟨Ao17, co17, eo17⟩ := Kd.R_slice HO308.out; subst eo17) | ((with_reducible refine gate_callee (f := 8) rfl ?_); refine goesM_ (some 33) rfl rfl Try.func8 #[.int .i64 a0, .slice Ao16 t303.length co16, .slice Ao17 t306.length co17, .int .i64 a3] rfl ?_; (with_reducible refine (spec_MomentsOfNodes.calls k a0 _ _ t303 _ _ t306 a3 t309 t310 t313 _ ?side1 ?side2 ?side3 ?side4 A9.out).mono ?_); (case side1 => exact cs ((Kd.R_reads' HO305.out).2.2)); (case side2 => exact (Kd.R_reads' HO305.out).2.1); (case side3 => exact cs ((Kd.R_reads' HO308.out).2.2)); (case side4 => exact (Kd.R_reads' HO308.out).2.1); rintro e w18 ⟨v311, rfl, ho0, hb⟩; refine ⟨_, rfl, ?_⟩; have n0_ := Aside0.mk (Kd.R_elder' (rs HO305) (Kd.R_base ho0) hb); have n1_ := Aside0.mk (Kd.R_elder' (rs HO308) (Kd.R_base ho0) hb); have n2_ := Aside0.mk (Kd.R_lower (Kd.R_new' (Kd.R_new' ho0 (Kd.R_lt (rs HO305))) (Kd.R_lt (rs HO308))) (below_size (bs HB))); have n3_ := Aside0.mk (below_step (bs HB) hb); clear HO305; clear HO308; clear HB; have HO305 := n0_; have HO308 := n1_; have HO312 := n2_; have HB := n3_; clear n0_ n1_ n2_ n3_; (try clear hb); (try clear hb2); (try clear hk); (try clear hi); (try clear ho0)) | ((with_reducible refine gate_dst (N := 9) rfl ?_); refine box_event ?hg (N := 9) ?hd (cs := #[.int .i64 0, .slice none 0 0]) (t := 24) ?hr ?_; (case hd => rfl); (case hg => rfl); (case hr => first | (go_simp; done) | (go_simp; rfl)); intro gb314 hg w19 hbox hb; have n0_ := Aside0.mk (Kd.R_below (rs HO305) hb); have n1_ := Aside0.mk (Kd.R_below (rs HO308) hb); have n2_ := Aside0.mk (Kd.R_below (rs HO312) hb); have n3_ := Aside0.mk (below_step (bs HB) hb); have n4_ := Aside0.mk (hbox); have n5_ := Aside0.mk ((by rw [hg]; exact (below_size (bs HB)) : w.heap.size ≤ gb314)); have n6_ := Aside0.mk ((by rw [hg]; exact (below_size (bs HB)) : w.heap.size ≤ gb314)); clear HO305; clear HO308; clear HO312; clear HB; have HO305 := n0_; have HO308 := n1_; have HO312 := n2_; have HB := n3_; have BK314 := n4_; have GW314 := n5_; have GE314 := n6_; clear n0_ n1_ n2_ n3_ n4_ n5_ n6_; clear hb hbox hg; have hcz20_0 : w19.cell? ⟨gb314, 0, none⟩ = some (.int .i64 0) := (blk_cell BK314.out 0).trans rfl; have hcz20_1 : w19.cell? ⟨gb314, 1, none⟩ = some (.slice none 0 0) := (blk_cell BK314.out 1).trans rfl; have hfz20_0 := blk_frozen BK314.out 0; have hfz20_1 := blk_frozen BK314.out 1; obtain ⟨Ao21, co21, eo21⟩ := Kd.R_slice HO312.out; subst eo21) | ((with_reducible refine gate_callee (f := 9) rfl ?_); refine goesM_ (some 37) rfl rfl Try.func9 #[.slice A1 l1.length c1] rfl ?_; (with_reducible refine (laws_toInt64S.calls k _ _ l1 t315 _ ?side1 ?side2 A10.out).mono ?_); (case side1 => exact Kd.C_below HR1.out (by repeat (first | (with_reducible first | exact HB.out | apply below_alloc | apply pw_below_drewN | apply below_drew1 | refine below_set ?_ GE314.out) | exact HB.out))); (case side2 => exact HC1.out); rintro e w22 ⟨v316, rfl, ho0, hb⟩; refine ⟨_, rfl, ?_⟩; have n0_ := Aside0.mk (Kd.R_elder' (by (with_reducible repeat (first | apply Kd.R_alloc | apply Kd.R_drewN | apply Kd.R_drew)); exact (Kd.R_mono (Kd.R_far (p := ⟨gb314, 1, none⟩) (Kd.R_far (p := ⟨gb314, 0, none⟩) (Kd.R_types HO305.out BK314.out (by decide)) (fun _ hk => hk.2) (.int .i64 t309)) (fun _ hk => hk.2) (.slice Ao21 t310.length co21)) (fun _ h_ => h_.1))) (Kd.R_base ho0) hb); have n1_ := Aside0.mk (Kd.R_elder' (by (with_reducible repeat (first | apply Kd.R_alloc | apply Kd.R_drewN | apply Kd.R_drew)); exact (Kd.R_mono (Kd.R_far (p := ⟨gb314, 1, none⟩) (Kd.R_far (p := ⟨gb314, 0, none⟩) (Kd.R_types HO308.out BK314.out (by decide)) (fun _ hk => hk.2) (.int .i64 t309)) (fun _ hk => hk.2) (.slice Ao21 t310.length co21)) (fun _ h_ => h_.1))) (Kd.R_base ho0) hb); have n2_ := Aside0.mk (Kd.R_elder' (by (with_reducible repeat (first | apply Kd.R_alloc | apply Kd.R_drewN | apply Kd.R_drew)); exact (Kd.R_mono (Kd.R_far (p := ⟨gb314, 1, none⟩) (Kd.R_far (p := ⟨gb314, 0, none⟩) (Kd.R_types HO312.out BK314.out (by decide)) (fun _ hk => hk.2) (.int .i64 t309)) (fun _ hk => hk.2) (.slice Ao21 t310.length co21)) (fun _ h_ => h_.1))) (Kd.R_base ho0) hb); have n3_ := Aside0.mk (Kd.R_lower (Kd.R_new' (Kd.R_new' (Kd.R_new' ho0 (Kd.R_lt (by (with_reducible repeat (first | apply Kd.R_alloc | apply Kd.R_drewN | apply Kd.R_drew)); exact (Kd.R_mono (Kd.R_far (p := ⟨gb314, 1, none⟩) (Kd.R_far (p := ⟨gb314, 0, none⟩) (Kd.R_types HO305.out BK314.out (by decide)) (fun _ hk => hk.2) (.int .i64 t309)) (fun _ hk => hk.2) (.slice Ao21 t310.length co21)) (fun _ h_ => h_.1))))) (Kd.R_lt (by (with_reducible repeat (first | apply Kd.R_alloc | apply Kd.R_drewN | apply Kd.R_drew)); exact (Kd.R_mono (Kd.R_far (p := ⟨gb314, 1, none⟩) (Kd.R_far (p := ⟨gb314, 0, none⟩) (Kd.R_types HO308.out BK314.out (by decide)) (fun _ hk => hk.2) (.int .i64 t309)) (fun _ hk => hk.2) (.slice Ao21 t310.length co21)) (fun _ h_ => h_.1))))) (Kd.R_lt (by (with_reducible repeat (first | apply Kd.R_alloc | apply Kd.R_drewN | apply Kd.R_drew)); exact (Kd.R_mono (Kd.R_far (p := ⟨gb314, 1, none⟩) (Kd.R_far (p := ⟨gb314, 0, none⟩) (Kd.R_types HO312.out BK314.out (by decide)) (fun _ hk => hk.2) (.int .i64 t309)) (fun _ hk => hk.2) (.slice Ao21 t310.length co21)) (fun _ h_ => h_.1))))) (below_size (by repeat (first | (with_reducible first | exact HB.out | apply below_alloc | apply pw_below_drewN | apply below_drew1 | refine below_set ?_ GE314.out) | exact HB.out)))); have n4_ := Aside0.mk (blk_below (g := gb314) (o := .cells #[.int .i64 t309, .slice Ao21 t310.length co21] 24 (0, 0)) (by (with_reducible repeat (first | refine blk_drewN ?_ _ | refine blk_drew ?_ | refine blk_alloc ?_ _)); refine blk_put (cs := #[.int .i64 t309, .slice none 0 0]) ?_ 1 _ rfl; (with_reducible repeat (first | refine blk_drewN ?_ _ | refine blk_drew ?_ | refine blk_alloc ?_ _)); refine blk_put (cs := #[.int .i64 0, .slice none 0 0]) ?_ 0 _ rfl; (with_reducible repeat (first | refine blk_drewN ?_ _ | refine blk_drew ?_ | refine blk_alloc ?_ _)); exact BK314.out) hb); have n5_ := Aside0.mk (below_step (by repeat (first | (with_reducible first | exact HB.out | apply below_alloc | apply pw_below_drewN | apply below_drew1 | refine below_set ?_ GE314.out) | exact HB.out)) hb); clear HO305; clear HO308; clear HO312; clear BK314; clear HB; have HO305 := n0_; have HO308 := n1_; have HO312 := n2_; have HO317 := n3_; have BK314 := n4_; have HB := n5_; clear n0_ n1_ n2_ n3_ n4_ n5_; (try clear hb); (try clear hb2); (try clear hk); (try clear hi); (try clear ho0)) | ((with_reducible refine gate_callee (f := 9) rfl ?_); refine goesM_ (some 39) rfl rfl Try.func9 #[.slice A2 l2.length c2] rfl ?_; (with_reducible refine (laws_toInt64S.calls k _ _ l2 t318 _ ?side1 ?side2 A11.out).mono ?_); (case side1 => exact cs ((Kd.C_below HR2.out HB.out))); (case side2 => exact HC2.out); rintro e w23 ⟨v319, rfl, ho0, hb⟩; refine ⟨_, rfl, ?_⟩; have n0_ := Aside0.mk (Kd.R_elder' (rs HO305) (Kd.R_base ho0) hb); have n1_ := Aside0.mk (Kd.R_elder' (rs HO308) (Kd.R_base ho0) hb); have n2_ := Aside0.mk (Kd.R_elder' (rs HO312) (Kd.R_base ho0) hb); have n3_ := Aside0.mk (Kd.R_elder' (rs HO317) (Kd.R_base ho0) hb); have n4_ := Aside0.mk (Kd.R_lower (Kd.R_new' (Kd.R_new' (Kd.R_new' (Kd.R_new' ho0 (Kd.R_lt (rs HO305))) (Kd.R_lt (rs HO308))) (Kd.R_lt (rs HO312))) (Kd.R_lt (rs HO317))) (below_size (by repeat (first | (with_reducible first | exact HB.out | apply below_alloc | apply pw_below_drewN | apply below_drew1 | refine below_set ?_ GE314.out) | exact HB.out)))); have n5_ := Aside0.mk (blk_below (g := gb314) (o := .cells #[.int .i64 t309, .slice Ao21 t310.length co21] 24 (0, 0)) (by (with_reducible repeat (first | refine blk_drewN ?_ _ | refine blk_drew ?_ | refine blk_alloc ?_ _)); exact BK314.out) hb); have n6_ := Aside0.mk (below_step (by repeat (first | (with_reducible first | exact HB.out | apply below_alloc | apply pw_below_drewN | apply below_drew1 | refine below_set ?_ GE314.out) | exact HB.out)) hb); clear HO305; clear HO308; clear HO312; clear HO317; clear BK314; clear HB; have HO305 := n0_; have HO308 := n1_; have HO312 := n2_; have HO317 := n3_; have HO320 := n4_; have BK314 := n5_; have HB := n6_; clear n0_ n1_ n2_ n3_ n4_ n5_ n6_; (try clear hb); (try clear hb2); (try clear hk); (try clear hi); (try clear ho0); obtain ⟨Ao24, co24, eo24⟩ := Kd.R_slice HO317.out; subst eo24; obtain ⟨Ao25, co25, eo25⟩ := Kd.R_slice HO320.out; subst eo25) | ((with_reducible refine gate_callee (f := 10) rfl ?_); refine goesM_ (some 45) rfl rfl Try.func10 #[.int .i64 a0, .slice Ao24 t315.length co24, .slice Ao25 t318.length co25, .int .i64 a3] rfl ?_; (with_reducible refine (impl_MomentsOfNodes.calls k a0 _ _ t315 _ _ t318 a3 t321 t322 t325 _ ?side1 ?side2 ?side3 ?side4 A12.out).mono ?_); (case side1 => exact cs ((Kd.R_reads' HO317.out).2.2)); (case side2 => exact (Kd.R_reads' HO317.out).2.1); (case side3 => exact cs ((Kd.R_reads' HO320.out).2.2)); (case side4 => exact (Kd.R_reads' HO320.out).2.1); rintro e w26 ⟨v323, rfl, ho0, hb⟩; refine ⟨_, rfl, ?_⟩; have n0_ := Aside0.mk (Kd.R_elder' (rs HO305) (Kd.R_base ho0) hb); have n1_ := Aside0.mk (Kd.R_elder' (rs HO308) (Kd.R_base ho0) hb); have n2_ := Aside0.mk (Kd.R_elder' (rs HO312) (Kd.R_base ho0) hb); have n3_ := Aside0.mk (Kd.R_elder' (rs HO317) (Kd.R_base ho0) hb); have n4_ := Aside0.mk (Kd.R_elder' (rs HO320) (Kd.R_base ho0) hb); have n5_ := Aside0.mk (Kd.R_lower (Kd.R_new' (Kd.R_new' (Kd.R_new' (Kd.R_new' (Kd.R_new' ho0 (Kd.R_lt (rs HO305))) (Kd.R_lt (rs HO308))) (Kd.R_lt (rs HO312))) (Kd.R_lt (rs HO317))) (Kd.R_lt (rs HO320))) (below_size (by repeat (first | (with_reducible first | exact HB.out | apply below_alloc | apply pw_below_drewN | apply below_drew1 | refine below_set ?_ GE314.out) | exact HB.out)))); have n6_ := Aside0.mk (blk_below (g := gb314) (o := .cells #[.int .i64 t309, .slice Ao21 t310.length co21] 24 (0, 0)) (by (with_reducible repeat (first | refine blk_drewN ?_ _ | refine blk_drew ?_ | refine blk_alloc ?_ _)); exact BK314.out) hb); have n7_ := Aside0.mk (below_step (by repeat (first | (with_reducible first | exact HB.out | apply below_alloc | apply pw_below_drewN | apply below_drew1 | refine below_set ?_ GE314.out) | exact HB.out)) hb); clear HO305; clear HO308; clear HO312; clear HO317; clear HO320; clear BK314; clear HB; have HO305 := n0_; have HO308 := n1_; have HO312 := n2_; have HO317 := n3_; have HO320 := n4_; have HO324 := n5_; have BK314 := n6_; have HB := n7_; clear n0_ n1_ n2_ n3_ n4_ n5_ n6_ n7_; (try clear hb); (try clear hb2); (try clear hk); (try clear hi); (try clear ho0)) | ((with_reducible refine gate_dst (N := 13) rfl ?_); refine box_event ?hg (N := 13) ?hd (cs := #[.int .i64 0, .slice none 0 0]) (t := 24) ?hr ?_; (case hd => rfl); (case hg => rfl); (case hr => first | (go_simp; done) | (go_simp; rfl)); intro gb326 hg w27 hbox hb; have n0_ := Aside0.mk (Kd.R_below (rs HO305) hb); have n1_ := Aside0.mk (Kd.R_below (rs HO308) hb); have n2_ := Aside0.mk (Kd.R_below (rs HO312) hb); have n3_ := Aside0.mk (Kd.R_below (rs HO317) hb); have n4_ := Aside0.mk (Kd.R_below (rs HO320) hb); have n5_ := Aside0.mk (Kd.R_below (rs HO324) hb); have n6_ := Aside0.mk (blk_below (g := gb314) (o := .cells #[.int .i64 t309, .slice Ao21 t310.length co21] 24 (0, 0)) (by (with_reducible repeat (first | refine blk_drewN ?_ _ | refine blk_drew ?_ | refine blk_alloc ?_ _)); exact BK314.out) hb); have n7_ := Aside0.mk (below_step (by repeat (first | (with_reducible first | exact HB.out | apply below_alloc | apply pw_below_drewN | apply below_drew1 | refine below_set ?_ GE314.out) | exact HB.out)) hb); have n8_ := Aside0.mk (hbox); have n9_ := Aside0.mk ((by rw [hg]; exact (below_size (by repeat (first | (with_reducible first | exact HB.out | apply below_alloc | apply pw_below_drewN | apply below_drew1 | refine below_set ?_ GE314.out) | exact HB.out))) : w.heap.size ≤ gb326)); have n10_ := Aside0.mk ((by rw [hg]; exact (below_size (by repeat (first | (with_reducible first | exact HB.out | apply below_alloc | apply pw_below_drewN | apply below_drew1 | refine below_set ?_ GE314.out) | exact HB.out))) : w.heap.size ≤ gb326)); have n11_ := Aside0.mk ((by rw [hg]; exact Nat.ne_of_lt (blk_lt (g := gb314) (o := .cells #[.int .i64 t309, .slice Ao21 t310.length co21] 24 (0, 0)) (by (with_reducible repeat (first | refine blk_drewN ?_ _ | refine blk_drew ?_ | refine blk_alloc ?_ _)); exact BK314.out)) : gb314 ≠ gb326)); have n12_ := Aside0.mk ((by rw [hg]; exact Nat.ne_of_gt (blk_lt (g := gb314) (o := .cells #[.int .i64 t309, .slice Ao21 t310.length co21] 24 (0, 0)) (by (with_reducible repeat (first | refine blk_drewN ?_ _ | refine blk_drew ?_ | refine blk_alloc ?_ _)); exact BK314.out)) : gb326 ≠ gb314)); clear HO305; clear HO308; clear HO312; clear HO317; clear HO320; clear HO324; clear BK314; clear HB; have HO305 := n0_; have HO308 := n1_; have HO312 := n2_; have HO317 := n3_; have HO320 := n4_; have HO324 := n5_; have BK314 := n6_; have HB := n7_; have BK326 := n8_; have GW326 := n9_; have GE326 := n10_; have NB314_326 := n11_; have NB326_314 := n12_; clear n0_ n1_ n2_ n3_ n4_ n5_ n6_ n7_ n8_ n9_ n10_ n11_ n12_; clear hb hbox hg; have hnb28 := NB326_314.out; have hnc28 := NB314_326.out; have hcz29_0 : w27.cell? ⟨gb326, 0, none⟩ = some (.int .i64 0) := (blk_cell BK326.out 0).trans rfl; have hcz29_1 : w27.cell? ⟨gb326, 1, none⟩ = some (.slice none 0 0) := (blk_cell BK326.out 1).trans rfl; have hfz29_0 := blk_frozen BK326.out 0; have hfz29_1 := blk_frozen BK326.out 1; obtain ⟨Ao30, co30, eo30⟩ := Kd.R_slice HO324.out; subst eo30))
      (try simp only [Act.put, List.setIfInBounds_toArray, List.set_cons_zero, List.set_cons_succ])
      go_cut [56] (fun v56 wc => ∃ (kq : Nat) (x56_12 : Bool), v56 = .bool x56_12 ∧ Aside0 (laws_FnExactMomentsOfNodes.j0 kq a0 l1 l2 a3 t313 t315 t318 t325 x56_12 t309 t310 t321 t322 = some r) ∧ Aside0 (kq ≤ k) ∧ Aside0 (Kd.R (Kd.int .i64) 2 wc w.heap.size (fun k_ => some k_ ≠ ((.slice Ao25 t318.length co25) : Value).ownBlock ∧ some k_ ≠ ((.slice Ao21 t310.length co21) : Value).ownBlock ∧ some k_ ≠ ((.slice Ao30 t322.length co30) : Value).ownBlock) (.slice Ao24 t315.length co24) t315) ∧ Aside0 (Kd.R (Kd.int .i64) 2 wc w.heap.size (fun k_ => some k_ ≠ ((.slice Ao24 t315.length co24) : Value).ownBlock ∧ some k_ ≠ ((.slice Ao21 t310.length co21) : Value).ownBlock ∧ some k_ ≠ ((.slice Ao30 t322.length co30) : Value).ownBlock) (.slice Ao25 t318.length co25) t318) ∧ Aside0 (Kd.R (Kd.int .i64) 2 wc w.heap.size (fun k_ => some k_ ≠ ((.slice Ao24 t315.length co24) : Value).ownBlock ∧ some k_ ≠ ((.slice Ao25 t318.length co25) : Value).ownBlock ∧ some k_ ≠ ((.slice Ao30 t322.length co30) : Value).ownBlock) (.slice Ao21 t310.length co21) t310) ∧ Aside0 (Kd.R (Kd.int .i64) 2 wc w.heap.size (fun k_ => some k_ ≠ ((.slice Ao24 t315.length co24) : Value).ownBlock ∧ some k_ ≠ ((.slice Ao25 t318.length co25) : Value).ownBlock ∧ some k_ ≠ ((.slice Ao21 t310.length co21) : Value).ownBlock) (.slice Ao30 t322.length co30) t322) ∧ Aside0 (wc.heap[gb314]? = some (.cells #[.int .i64 t309, (.slice Ao21 t310.length co21)] 24 (0, 0))) ∧ Aside0 (wc.heap[gb326]? = some (.cells #[.int .i64 t321, (.slice Ao30 t322.length co30)] 24 (0, 0))) ∧ Aside0 (Below w.heap.size w wc))
      case first =>
        have H := HC13.out
        clear HC13
        replace H := Option.bind_eq_some_iff.mp H
        obtain ⟨t327, A310, H⟩ := H
        have A31 := Aside0.mk A310
        clear A310
        by_cases c32 : t327 = true
        · subst c32
          have H1 : (laws_FnExactMomentsOfNodes.j0 k a0 l1 l2 a3 t313 t315 t318 t325 (t325 != t313) t309 t310 t321 t322) = some r := by rw [if_pos rfl] at H; exact H
          clear H
          have H := H1
          clear H1
          have H' := Aside0.mk H
          clear H
          have hnb33 := NB326_314.out
          have hnc33 := NB314_326.out
          have hcz34_0 : w27.cell? ⟨gb326, 0, none⟩ = some (.int .i64 0) := (blk_cell BK326.out 0).trans rfl
          have hcz34_1 : w27.cell? ⟨gb326, 1, none⟩ = some (.slice none 0 0) := (blk_cell BK326.out 1).trans rfl
          have hfz34_0 := blk_frozen BK326.out 0
          have hfz34_1 := blk_frozen BK326.out 1
          have hcz35_0 : w27.cell? ⟨gb314, 0, none⟩ = some (.int .i64 t309) := (blk_cell BK314.out 0).trans rfl
          have hcz35_1 : w27.cell? ⟨gb314, 1, none⟩ = some (.slice Ao21 t310.length co21) := (blk_cell BK314.out 1).trans rfl
          have hfz35_0 := blk_frozen BK314.out 0
          have hfz35_1 := blk_frozen BK314.out 1
          go_wp2_with (first | ((with_reducible refine gate_callee (f := 11) rfl ?_); refine goesM_ (some 50) rfl rfl Try.func11 #[.agg #[.int .i64 t321, .slice Ao30 t322.length co30], .agg #[.int .i64 t309, .slice Ao21 t310.length co21]] rfl ?_; (with_reducible refine (laws_eqMoments.calls k t321 _ _ t322 t309 _ _ t310 true _ ?side1 ?side2 ?side3 ?side4 A31.out).mono ?_); (case side1 => refine (Kd.R_reads' (e := 2) (base := w.heap.size) (ok := fun k_ => (((((True ∧ some k_ ≠ (.slice Ao16 t303.length co16 : Value).ownBlock) ∧ some k_ ≠ (.slice Ao17 t306.length co17 : Value).ownBlock) ∧ some k_ ≠ (.slice Ao21 t310.length co21 : Value).ownBlock) ∧ some k_ ≠ (.slice Ao24 t315.length co24 : Value).ownBlock) ∧ some k_ ≠ (.slice Ao25 t318.length co25 : Value).ownBlock)) (n := t322.length) (c := co30) ?_).2.2; exact (by (with_reducible repeat (first | apply Kd.R_alloc | apply Kd.R_drewN | apply Kd.R_drew)); exact (Kd.R_mono (Kd.R_far (p := ⟨gb326, 1, none⟩) (Kd.R_far (p := ⟨gb326, 0, none⟩) (Kd.R_types HO324.out BK326.out (by decide)) (fun _ hk => hk.2) (.int .i64 t321)) (fun _ hk => hk.2) (.slice Ao30 t322.length co30)) (fun _ h_ => h_.1)))); (case side2 => exact (Kd.R_reads' HO324.out).2.1); (case side3 => refine (Kd.R_reads' (e := 2) (base := w.heap.size) (ok := fun k_ => (((((True ∧ some k_ ≠ (.slice Ao16 t303.length co16 : Value).ownBlock) ∧ some k_ ≠ (.slice Ao17 t306.length co17 : Value).ownBlock) ∧ some k_ ≠ (.slice Ao24 t315.length co24 : Value).ownBlock) ∧ some k_ ≠ (.slice Ao25 t318.length co25 : Value).ownBlock) ∧ some k_ ≠ (.slice Ao30 t322.length co30 : Value).ownBlock)) (n := t310.length) (c := co21) ?_).2.2; exact (by (with_reducible repeat (first | apply Kd.R_alloc | apply Kd.R_drewN | apply Kd.R_drew)); exact (Kd.R_mono (Kd.R_far (p := ⟨gb326, 1, none⟩) (Kd.R_far (p := ⟨gb326, 0, none⟩) (Kd.R_types HO312.out BK326.out (by decide)) (fun _ hk => hk.2) (.int .i64 t321)) (fun _ hk => hk.2) (.slice Ao30 t322.length co30)) (fun _ h_ => h_.1)))); (case side4 => exact (Kd.R_reads' HO312.out).2.1); rintro e w36 ⟨rfl, hb⟩; refine ⟨_, rfl, ?_⟩; have n0_ := Aside0.mk (Kd.R_below (by (with_reducible repeat (first | apply Kd.R_alloc | apply Kd.R_drewN | apply Kd.R_drew)); exact (Kd.R_mono (Kd.R_far (p := ⟨gb326, 1, none⟩) (Kd.R_far (p := ⟨gb326, 0, none⟩) (Kd.R_types HO305.out BK326.out (by decide)) (fun _ hk => hk.2) (.int .i64 t321)) (fun _ hk => hk.2) (.slice Ao30 t322.length co30)) (fun _ h_ => h_.1))) hb); have n1_ := Aside0.mk (Kd.R_below (by (with_reducible repeat (first | apply Kd.R_alloc | apply Kd.R_drewN | apply Kd.R_drew)); exact (Kd.R_mono (Kd.R_far (p := ⟨gb326, 1, none⟩) (Kd.R_far (p := ⟨gb326, 0, none⟩) (Kd.R_types HO308.out BK326.out (by decide)) (fun _ hk => hk.2) (.int .i64 t321)) (fun _ hk => hk.2) (.slice Ao30 t322.length co30)) (fun _ h_ => h_.1))) hb); have n2_ := Aside0.mk (Kd.R_below (by (with_reducible repeat (first | apply Kd.R_alloc | apply Kd.R_drewN | apply Kd.R_drew)); exact (Kd.R_mono (Kd.R_far (p := ⟨gb326, 1, none⟩) (Kd.R_far (p := ⟨gb326, 0, none⟩) (Kd.R_types HO312.out BK326.out (by decide)) (fun _ hk => hk.2) (.int .i64 t321)) (fun _ hk => hk.2) (.slice Ao30 t322.length co30)) (fun _ h_ => h_.1))) hb); have n3_ := Aside0.mk (Kd.R_below (by (with_reducible repeat (first | apply Kd.R_alloc | apply Kd.R_drewN | apply Kd.R_drew)); exact (Kd.R_mono (Kd.R_far (p := ⟨gb326, 1, none⟩) (Kd.R_far (p := ⟨gb326, 0, none⟩) (Kd.R_types HO317.out BK326.out (by decide)) (fun _ hk => hk.2) (.int .i64 t321)) (fun _ hk => hk.2) (.slice Ao30 t322.length co30)) (fun _ h_ => h_.1))) hb); have n4_ := Aside0.mk (Kd.R_below (by (with_reducible repeat (first | apply Kd.R_alloc | apply Kd.R_drewN | apply Kd.R_drew)); exact (Kd.R_mono (Kd.R_far (p := ⟨gb326, 1, none⟩) (Kd.R_far (p := ⟨gb326, 0, none⟩) (Kd.R_types HO320.out BK326.out (by decide)) (fun _ hk => hk.2) (.int .i64 t321)) (fun _ hk => hk.2) (.slice Ao30 t322.length co30)) (fun _ h_ => h_.1))) hb); have n5_ := Aside0.mk (Kd.R_below (by (with_reducible repeat (first | apply Kd.R_alloc | apply Kd.R_drewN | apply Kd.R_drew)); exact (Kd.R_mono (Kd.R_far (p := ⟨gb326, 1, none⟩) (Kd.R_far (p := ⟨gb326, 0, none⟩) (Kd.R_types HO324.out BK326.out (by decide)) (fun _ hk => hk.2) (.int .i64 t321)) (fun _ hk => hk.2) (.slice Ao30 t322.length co30)) (fun _ h_ => h_.1))) hb); have n6_ := Aside0.mk (blk_below (g := gb314) (o := .cells #[.int .i64 t309, .slice Ao21 t310.length co21] 24 (0, 0)) (by (with_reducible repeat (first | refine blk_drewN ?_ _ | refine blk_drew ?_ | refine blk_alloc ?_ _)); refine blk_far ?_ NB314_326.out _; (with_reducible repeat (first | refine blk_drewN ?_ _ | refine blk_drew ?_ | refine blk_alloc ?_ _)); refine blk_far ?_ NB314_326.out _; (with_reducible repeat (first | refine blk_drewN ?_ _ | refine blk_drew ?_ | refine blk_alloc ?_ _)); exact BK314.out) hb); have n7_ := Aside0.mk (blk_below (g := gb326) (o := .cells #[.int .i64 t321, .slice Ao30 t322.length co30] 24 (0, 0)) (by (with_reducible repeat (first | refine blk_drewN ?_ _ | refine blk_drew ?_ | refine blk_alloc ?_ _)); refine blk_put (cs := #[.int .i64 t321, .slice none 0 0]) ?_ 1 _ rfl; (with_reducible repeat (first | refine blk_drewN ?_ _ | refine blk_drew ?_ | refine blk_alloc ?_ _)); refine blk_put (cs := #[.int .i64 0, .slice none 0 0]) ?_ 0 _ rfl; (with_reducible repeat (first | refine blk_drewN ?_ _ | refine blk_drew ?_ | refine blk_alloc ?_ _)); exact BK326.out) hb); have n8_ := Aside0.mk (below_step (by repeat (first | (with_reducible first | exact HB.out | apply below_alloc | apply pw_below_drewN | apply below_drew1 | refine below_set ?_ GE314.out | refine below_set ?_ GE326.out) | exact HB.out)) hb); clear HO305; clear HO308; clear HO312; clear HO317; clear HO320; clear HO324; clear BK314; clear BK326; clear HB; have HO305 := n0_; have HO308 := n1_; have HO312 := n2_; have HO317 := n3_; have HO320 := n4_; have HO324 := n5_; have BK314 := n6_; have BK326 := n7_; have HB := n8_; clear n0_ n1_ n2_ n3_ n4_ n5_ n6_ n7_ n8_; (try clear hb); (try clear hb2); (try clear hk); (try clear hi)))
          go_meet
          case rel => exact ⟨_, ((t325 != t313)), ea_, H', ⟨by first | omega | exact Nat.le_refl _⟩, ⟨by (with_reducible repeat (first | apply Kd.R_alloc | apply Kd.R_drewN | apply Kd.R_drew)); exact Kd.R_mono HO317.out (fun _ hk => ⟨hk.1.2, ⟨hk.1.1.2, hk.2⟩⟩)⟩, ⟨by (with_reducible repeat (first | apply Kd.R_alloc | apply Kd.R_drewN | apply Kd.R_drew)); exact Kd.R_mono HO320.out (fun _ hk => ⟨hk.1.2, ⟨hk.1.1.2, hk.2⟩⟩)⟩, ⟨by (with_reducible repeat (first | apply Kd.R_alloc | apply Kd.R_drewN | apply Kd.R_drew)); exact Kd.R_mono HO312.out (fun _ hk => ⟨hk.1.1.2, ⟨hk.1.2, hk.2⟩⟩)⟩, ⟨by (with_reducible repeat (first | apply Kd.R_alloc | apply Kd.R_drewN | apply Kd.R_drew)); exact Kd.R_mono HO324.out (fun _ hk => ⟨hk.1.2, ⟨hk.2, hk.1.1.2⟩⟩)⟩, ⟨by (with_reducible repeat (first | refine blk_drewN ?_ _ | refine blk_drew ?_ | refine blk_alloc ?_ _)); exact BK314.out⟩, ⟨by (with_reducible repeat (first | refine blk_drewN ?_ _ | refine blk_drew ?_ | refine blk_alloc ?_ _)); exact BK326.out⟩, ⟨by repeat (first | (with_reducible first | exact HB.out | apply below_alloc | apply pw_below_drewN | apply below_drew1 | refine below_set ?_ GE314.out | refine below_set ?_ GE326.out) | exact HB.out)⟩⟩
        · replace c32 := Bool.eq_false_iff.mpr c32
          subst c32
          have H1 : (laws_FnExactMomentsOfNodes.j0 k a0 l1 l2 a3 t313 t315 t318 t325 true t309 t310 t321 t322) = some r := by rw [if_neg (show ¬ (false = true) by decide)] at H; exact H
          clear H
          have H := H1
          clear H1
          have H' := Aside0.mk H
          clear H
          have hnb37 := NB326_314.out
          have hnc37 := NB314_326.out
          have hcz38_0 : w27.cell? ⟨gb326, 0, none⟩ = some (.int .i64 0) := (blk_cell BK326.out 0).trans rfl
          have hcz38_1 : w27.cell? ⟨gb326, 1, none⟩ = some (.slice none 0 0) := (blk_cell BK326.out 1).trans rfl
          have hfz38_0 := blk_frozen BK326.out 0
          have hfz38_1 := blk_frozen BK326.out 1
          have hcz39_0 : w27.cell? ⟨gb314, 0, none⟩ = some (.int .i64 t309) := (blk_cell BK314.out 0).trans rfl
          have hcz39_1 : w27.cell? ⟨gb314, 1, none⟩ = some (.slice Ao21 t310.length co21) := (blk_cell BK314.out 1).trans rfl
          have hfz39_0 := blk_frozen BK314.out 0
          have hfz39_1 := blk_frozen BK314.out 1
          go_wp2_with (first | ((with_reducible refine gate_callee (f := 11) rfl ?_); refine goesM_ (some 50) rfl rfl Try.func11 #[.agg #[.int .i64 t321, .slice Ao30 t322.length co30], .agg #[.int .i64 t309, .slice Ao21 t310.length co21]] rfl ?_; (with_reducible refine (laws_eqMoments.calls k t321 _ _ t322 t309 _ _ t310 false _ ?side1 ?side2 ?side3 ?side4 A31.out).mono ?_); (case side1 => refine (Kd.R_reads' (e := 2) (base := w.heap.size) (ok := fun k_ => (((((True ∧ some k_ ≠ (.slice Ao16 t303.length co16 : Value).ownBlock) ∧ some k_ ≠ (.slice Ao17 t306.length co17 : Value).ownBlock) ∧ some k_ ≠ (.slice Ao21 t310.length co21 : Value).ownBlock) ∧ some k_ ≠ (.slice Ao24 t315.length co24 : Value).ownBlock) ∧ some k_ ≠ (.slice Ao25 t318.length co25 : Value).ownBlock)) (n := t322.length) (c := co30) ?_).2.2; exact (by (with_reducible repeat (first | apply Kd.R_alloc | apply Kd.R_drewN | apply Kd.R_drew)); exact (Kd.R_mono (Kd.R_far (p := ⟨gb326, 1, none⟩) (Kd.R_far (p := ⟨gb326, 0, none⟩) (Kd.R_types HO324.out BK326.out (by decide)) (fun _ hk => hk.2) (.int .i64 t321)) (fun _ hk => hk.2) (.slice Ao30 t322.length co30)) (fun _ h_ => h_.1)))); (case side2 => exact (Kd.R_reads' HO324.out).2.1); (case side3 => refine (Kd.R_reads' (e := 2) (base := w.heap.size) (ok := fun k_ => (((((True ∧ some k_ ≠ (.slice Ao16 t303.length co16 : Value).ownBlock) ∧ some k_ ≠ (.slice Ao17 t306.length co17 : Value).ownBlock) ∧ some k_ ≠ (.slice Ao24 t315.length co24 : Value).ownBlock) ∧ some k_ ≠ (.slice Ao25 t318.length co25 : Value).ownBlock) ∧ some k_ ≠ (.slice Ao30 t322.length co30 : Value).ownBlock)) (n := t310.length) (c := co21) ?_).2.2; exact (by (with_reducible repeat (first | apply Kd.R_alloc | apply Kd.R_drewN | apply Kd.R_drew)); exact (Kd.R_mono (Kd.R_far (p := ⟨gb326, 1, none⟩) (Kd.R_far (p := ⟨gb326, 0, none⟩) (Kd.R_types HO312.out BK326.out (by decide)) (fun _ hk => hk.2) (.int .i64 t321)) (fun _ hk => hk.2) (.slice Ao30 t322.length co30)) (fun _ h_ => h_.1)))); (case side4 => exact (Kd.R_reads' HO312.out).2.1); rintro e w40 ⟨rfl, hb⟩; refine ⟨_, rfl, ?_⟩; have n0_ := Aside0.mk (Kd.R_below (by (with_reducible repeat (first | apply Kd.R_alloc | apply Kd.R_drewN | apply Kd.R_drew)); exact (Kd.R_mono (Kd.R_far (p := ⟨gb326, 1, none⟩) (Kd.R_far (p := ⟨gb326, 0, none⟩) (Kd.R_types HO305.out BK326.out (by decide)) (fun _ hk => hk.2) (.int .i64 t321)) (fun _ hk => hk.2) (.slice Ao30 t322.length co30)) (fun _ h_ => h_.1))) hb); have n1_ := Aside0.mk (Kd.R_below (by (with_reducible repeat (first | apply Kd.R_alloc | apply Kd.R_drewN | apply Kd.R_drew)); exact (Kd.R_mono (Kd.R_far (p := ⟨gb326, 1, none⟩) (Kd.R_far (p := ⟨gb326, 0, none⟩) (Kd.R_types HO308.out BK326.out (by decide)) (fun _ hk => hk.2) (.int .i64 t321)) (fun _ hk => hk.2) (.slice Ao30 t322.length co30)) (fun _ h_ => h_.1))) hb); have n2_ := Aside0.mk (Kd.R_below (by (with_reducible repeat (first | apply Kd.R_alloc | apply Kd.R_drewN | apply Kd.R_drew)); exact (Kd.R_mono (Kd.R_far (p := ⟨gb326, 1, none⟩) (Kd.R_far (p := ⟨gb326, 0, none⟩) (Kd.R_types HO312.out BK326.out (by decide)) (fun _ hk => hk.2) (.int .i64 t321)) (fun _ hk => hk.2) (.slice Ao30 t322.length co30)) (fun _ h_ => h_.1))) hb); have n3_ := Aside0.mk (Kd.R_below (by (with_reducible repeat (first | apply Kd.R_alloc | apply Kd.R_drewN | apply Kd.R_drew)); exact (Kd.R_mono (Kd.R_far (p := ⟨gb326, 1, none⟩) (Kd.R_far (p := ⟨gb326, 0, none⟩) (Kd.R_types HO317.out BK326.out (by decide)) (fun _ hk => hk.2) (.int .i64 t321)) (fun _ hk => hk.2) (.slice Ao30 t322.length co30)) (fun _ h_ => h_.1))) hb); have n4_ := Aside0.mk (Kd.R_below (by (with_reducible repeat (first | apply Kd.R_alloc | apply Kd.R_drewN | apply Kd.R_drew)); exact (Kd.R_mono (Kd.R_far (p := ⟨gb326, 1, none⟩) (Kd.R_far (p := ⟨gb326, 0, none⟩) (Kd.R_types HO320.out BK326.out (by decide)) (fun _ hk => hk.2) (.int .i64 t321)) (fun _ hk => hk.2) (.slice Ao30 t322.length co30)) (fun _ h_ => h_.1))) hb); have n5_ := Aside0.mk (Kd.R_below (by (with_reducible repeat (first | apply Kd.R_alloc | apply Kd.R_drewN | apply Kd.R_drew)); exact (Kd.R_mono (Kd.R_far (p := ⟨gb326, 1, none⟩) (Kd.R_far (p := ⟨gb326, 0, none⟩) (Kd.R_types HO324.out BK326.out (by decide)) (fun _ hk => hk.2) (.int .i64 t321)) (fun _ hk => hk.2) (.slice Ao30 t322.length co30)) (fun _ h_ => h_.1))) hb); have n6_ := Aside0.mk (blk_below (g := gb314) (o := .cells #[.int .i64 t309, .slice Ao21 t310.length co21] 24 (0, 0)) (by (with_reducible repeat (first | refine blk_drewN ?_ _ | refine blk_drew ?_ | refine blk_alloc ?_ _)); refine blk_far ?_ NB314_326.out _; (with_reducible repeat (first | refine blk_drewN ?_ _ | refine blk_drew ?_ | refine blk_alloc ?_ _)); refine blk_far ?_ NB314_326.out _; (with_reducible repeat (first | refine blk_drewN ?_ _ | refine blk_drew ?_ | refine blk_alloc ?_ _)); exact BK314.out) hb); have n7_ := Aside0.mk (blk_below (g := gb326) (o := .cells #[.int .i64 t321, .slice Ao30 t322.length co30] 24 (0, 0)) (by (with_reducible repeat (first | refine blk_drewN ?_ _ | refine blk_drew ?_ | refine blk_alloc ?_ _)); refine blk_put (cs := #[.int .i64 t321, .slice none 0 0]) ?_ 1 _ rfl; (with_reducible repeat (first | refine blk_drewN ?_ _ | refine blk_drew ?_ | refine blk_alloc ?_ _)); refine blk_put (cs := #[.int .i64 0, .slice none 0 0]) ?_ 0 _ rfl; (with_reducible repeat (first | refine blk_drewN ?_ _ | refine blk_drew ?_ | refine blk_alloc ?_ _)); exact BK326.out) hb); have n8_ := Aside0.mk (below_step (by repeat (first | (with_reducible first | exact HB.out | apply below_alloc | apply pw_below_drewN | apply below_drew1 | refine below_set ?_ GE314.out | refine below_set ?_ GE326.out) | exact HB.out)) hb); clear HO305; clear HO308; clear HO312; clear HO317; clear HO320; clear HO324; clear BK314; clear BK326; clear HB; have HO305 := n0_; have HO308 := n1_; have HO312 := n2_; have HO317 := n3_; have HO320 := n4_; have HO324 := n5_; have BK314 := n6_; have BK326 := n7_; have HB := n8_; clear n0_ n1_ n2_ n3_ n4_ n5_ n6_ n7_ n8_; (try clear hb); (try clear hb2); (try clear hk); (try clear hi)))
          go_meet
          case rel => exact ⟨_, (true), ea_, H', ⟨by first | omega | exact Nat.le_refl _⟩, ⟨by (with_reducible repeat (first | apply Kd.R_alloc | apply Kd.R_drewN | apply Kd.R_drew)); exact Kd.R_mono HO317.out (fun _ hk => ⟨hk.1.2, ⟨hk.1.1.2, hk.2⟩⟩)⟩, ⟨by (with_reducible repeat (first | apply Kd.R_alloc | apply Kd.R_drewN | apply Kd.R_drew)); exact Kd.R_mono HO320.out (fun _ hk => ⟨hk.1.2, ⟨hk.1.1.2, hk.2⟩⟩)⟩, ⟨by (with_reducible repeat (first | apply Kd.R_alloc | apply Kd.R_drewN | apply Kd.R_drew)); exact Kd.R_mono HO312.out (fun _ hk => ⟨hk.1.1.2, ⟨hk.1.2, hk.2⟩⟩)⟩, ⟨by (with_reducible repeat (first | apply Kd.R_alloc | apply Kd.R_drewN | apply Kd.R_drew)); exact Kd.R_mono HO324.out (fun _ hk => ⟨hk.1.2, ⟨hk.2, hk.1.1.2⟩⟩)⟩, ⟨by (with_reducible repeat (first | refine blk_drewN ?_ _ | refine blk_drew ?_ | refine blk_alloc ?_ _)); exact BK314.out⟩, ⟨by (with_reducible repeat (first | refine blk_drewN ?_ _ | refine blk_drew ?_ | refine blk_alloc ?_ _)); exact BK326.out⟩, ⟨by repeat (first | (with_reducible first | exact HB.out | apply below_alloc | apply pw_below_drewN | apply below_drew1 | refine below_set ?_ GE314.out | refine below_set ?_ GE326.out) | exact HB.out)⟩⟩
      case rest =>
        clear HC13
        try clear c1
        try clear c2
        try clear p2
        try clear c3
        try clear c5
        try clear c5b0
        try clear c5b1
        try clear c6
        try clear c6b0
        try clear c6b1
        try clear c8
        try clear c9
        try clear c10
        try clear c11
        try clear c28
        try clear c32
        try clear c33
        try clear c37
        try clear hcz20_0
        try clear hcz20_1
        try clear hcz29_0
        try clear hcz29_1
        try clear hcz34_0
        try clear hcz34_1
        try clear hcz35_0
        try clear hcz35_1
        try clear hcz38_0
        try clear hcz38_1
        try clear hcz39_0
        try clear hcz39_1
        try clear hfz20_0
        try clear hfz20_1
        try clear hfz29_0
        try clear hfz29_1
        try clear hfz34_0
        try clear hfz34_1
        try clear hfz35_0
        try clear hfz35_1
        try clear hfz38_0
        try clear hfz38_1
        try clear hfz39_0
        try clear hfz39_1
        obtain ⟨kq, x56_12, rfl, HA, HJ12, HO_11, HO_12, HO_315001, HO_327001, BK314, BK326, HB⟩ := hcut
        cases kq with
        | zero => exact absurd HA.out (by simp [laws_FnExactMomentsOfNodes.j0])
        | succ kj12 =>
          have H := HA.out
          clear HA
          simp only [laws_FnExactMomentsOfNodes.j0] at H
          by_cases c41 : x56_12 = true
          · subst c41
            have H1 : (some false) = some r := by rw [if_pos rfl] at H; exact H
            clear H
            have H := H1
            clear H1
            obtain rfl := Option.some.inj H
            go_wp2
            go_ret
            exact ⟨by first | rfl | (simp [errW_none, errW_some] <;> rfl) | (simp [*, errW_none, errW_some] <;> rfl), by repeat (first | (with_reducible first | exact HB.out | apply below_alloc | apply pw_below_drewN | apply below_drew1 | refine below_set ?_ GE314.out | refine below_set ?_ GE326.out) | exact HB.out)⟩
          · replace c41 := Bool.eq_false_iff.mpr c41
            subst c41
            have H1 : ((laws_toInt64S.f kj12 l1).bind fun t328 => ((laws_eqInt64S.f kj12 t315 t328).bind fun t331 => (if t331 = true then ((laws_toInt64S.f kj12 l2).bind fun t332 => ((laws_eqInt64S.f kj12 t318 t332).bind fun t335 => (if t335 = true then ((laws_markInt64S.f kj12 t315 1).bind fun bt336 => ((laws_markInt64S.f kj12 t318 bt336.1).bind fun bt338 => (if bt338.1 < 0 then (laws_FnExactMomentsOfNodes.j1 kj12 a0 l1 l2 a3 t313 true t309 t310 t321 t322) else ((laws_eqMoments.f kj12 t321 t322 t309 t310).bind fun t340 => (if t340 = true then (laws_FnExactMomentsOfNodes.j1 kj12 a0 l1 l2 a3 t313 (t325 != t313) t309 t310 t321 t322) else (laws_FnExactMomentsOfNodes.j1 kj12 a0 l1 l2 a3 t313 true t309 t310 t321 t322)))))) else (some false)))) else (some false)))) = some r := by rw [if_neg (show ¬ (false = true) by decide)] at H; exact H
            clear H
            have H := H1
            clear H1
            replace H := Option.bind_eq_some_iff.mp H
            obtain ⟨t328, A420, H⟩ := H
            have A42 := Aside0.mk A420
            clear A420
            replace H := Option.bind_eq_some_iff.mp H
            obtain ⟨t331, A430, H⟩ := H
            have A43 := Aside0.mk A430
            clear A430
            by_cases c44 : t331 = true
            · subst c44
              have H1 : ((laws_toInt64S.f kj12 l2).bind fun t332 => ((laws_eqInt64S.f kj12 t318 t332).bind fun t335 => (if t335 = true then ((laws_markInt64S.f kj12 t315 1).bind fun bt336 => ((laws_markInt64S.f kj12 t318 bt336.1).bind fun bt338 => (if bt338.1 < 0 then (laws_FnExactMomentsOfNodes.j1 kj12 a0 l1 l2 a3 t313 true t309 t310 t321 t322) else ((laws_eqMoments.f kj12 t321 t322 t309 t310).bind fun t340 => (if t340 = true then (laws_FnExactMomentsOfNodes.j1 kj12 a0 l1 l2 a3 t313 (t325 != t313) t309 t310 t321 t322) else (laws_FnExactMomentsOfNodes.j1 kj12 a0 l1 l2 a3 t313 true t309 t310 t321 t322)))))) else (some false)))) = some r := by rw [if_pos rfl] at H; exact H
              clear H
              have H := H1
              clear H1
              replace H := Option.bind_eq_some_iff.mp H
              obtain ⟨t332, A450, H⟩ := H
              have A45 := Aside0.mk A450
              clear A450
              replace H := Option.bind_eq_some_iff.mp H
              obtain ⟨t335, A460, H⟩ := H
              have A46 := Aside0.mk A460
              clear A460
              by_cases c47 : t335 = true
              · subst c47
                have H1 : ((laws_markInt64S.f kj12 t315 1).bind fun bt336 => ((laws_markInt64S.f kj12 t318 bt336.1).bind fun bt338 => (if bt338.1 < 0 then (laws_FnExactMomentsOfNodes.j1 kj12 a0 l1 l2 a3 t313 true t309 t310 t321 t322) else ((laws_eqMoments.f kj12 t321 t322 t309 t310).bind fun t340 => (if t340 = true then (laws_FnExactMomentsOfNodes.j1 kj12 a0 l1 l2 a3 t313 (t325 != t313) t309 t310 t321 t322) else (laws_FnExactMomentsOfNodes.j1 kj12 a0 l1 l2 a3 t313 true t309 t310 t321 t322)))))) = some r := by rw [if_pos rfl] at H; exact H
                clear H
                have H := H1
                clear H1
                replace H := Option.bind_eq_some_iff.mp H
                obtain ⟨⟨t336, t337⟩, A480, H⟩ := H
                have A48 := Aside0.mk A480
                clear A480
                replace H := Option.bind_eq_some_iff.mp H
                obtain ⟨⟨t338, t339⟩, A490, H⟩ := H
                have A49 := Aside0.mk A490
                clear A490
                have HC50 := Aside0.mk H
                clear H
                go_upto_region 18 with (first | ((with_reducible refine gate_callee (f := 9) rfl ?_); refine goesM_ (some 59) rfl rfl Try.func9 #[.slice A1 l1.length c1] rfl ?_; (with_reducible refine (laws_toInt64S.calls kj12 _ _ l1 t328 _ ?side1 ?side2 A42.out).mono ?_); (case side1 => exact cs ((Kd.C_below HR1.out HB.out))); (case side2 => exact HC1.out); rintro e w51 ⟨v329, rfl, ho0, hb⟩; refine ⟨_, rfl, ?_⟩; have n0_ := Aside0.mk (Kd.R_elder' (rs HO_11) (Kd.R_base ho0) hb); have n1_ := Aside0.mk (Kd.R_elder' (rs HO_12) (Kd.R_base ho0) hb); have n2_ := Aside0.mk (Kd.R_elder' (rs HO_315001) (Kd.R_base ho0) hb); have n3_ := Aside0.mk (Kd.R_elder' (rs HO_327001) (Kd.R_base ho0) hb); have n4_ := Aside0.mk (Kd.R_lower (Kd.R_new' (Kd.R_new' (Kd.R_new' (Kd.R_new' ho0 (Kd.R_lt (rs HO_11))) (Kd.R_lt (rs HO_12))) (Kd.R_lt (rs HO_315001))) (Kd.R_lt (rs HO_327001))) (below_size (by repeat (first | (with_reducible first | exact HB.out | apply below_alloc | apply pw_below_drewN | apply below_drew1 | refine below_set ?_ GE314.out | refine below_set ?_ GE326.out) | exact HB.out)))); have n5_ := Aside0.mk (blk_below (g := gb314) (o := .cells #[.int .i64 t309, .slice Ao21 t310.length co21] 24 (0, 0)) (by (with_reducible repeat (first | refine blk_drewN ?_ _ | refine blk_drew ?_ | refine blk_alloc ?_ _)); exact BK314.out) hb); have n6_ := Aside0.mk (blk_below (g := gb326) (o := .cells #[.int .i64 t321, .slice Ao30 t322.length co30] 24 (0, 0)) (by (with_reducible repeat (first | refine blk_drewN ?_ _ | refine blk_drew ?_ | refine blk_alloc ?_ _)); exact BK326.out) hb); have n7_ := Aside0.mk (below_step (by repeat (first | (with_reducible first | exact HB.out | apply below_alloc | apply pw_below_drewN | apply below_drew1 | refine below_set ?_ GE314.out | refine below_set ?_ GE326.out) | exact HB.out)) hb); clear HO_11; clear HO_12; clear HO_315001; clear HO_327001; clear BK314; clear BK326; clear HB; have HO_11 := n0_; have HO_12 := n1_; have HO_315001 := n2_; have HO_327001 := n3_; have HO330 := n4_; have BK314 := n5_; have BK326 := n6_; have HB := n7_; clear n0_ n1_ n2_ n3_ n4_ n5_ n6_ n7_; (try clear hb); (try clear hb2); (try clear hk); (try clear hi); (try clear ho0); obtain ⟨Ao52, co52, eo52⟩ := Kd.R_slice HO330.out; subst eo52) | ((with_reducible refine gate_callee (f := 12) rfl ?_); refine goesM_ (some 60) rfl rfl Try.func12 #[.slice Ao24 t315.length co24, .slice Ao52 t328.length co52] rfl ?_; (with_reducible refine (laws_eqInt64S.calls kj12 _ _ t315 _ _ t328 true _ ?side1 ?side2 ?side3 ?side4 A43.out).mono ?_); (case side1 => exact cs ((Kd.R_reads' HO_11.out).2.2)); (case side2 => exact (Kd.R_reads' HO_11.out).2.1); (case side3 => exact cs ((Kd.R_reads' HO330.out).2.2)); (case side4 => exact (Kd.R_reads' HO330.out).2.1); rintro e w' ⟨rfl, ⟨nd, rfl⟩⟩; refine ⟨_, rfl, ?_⟩) | ((with_reducible refine gate_callee (f := 9) rfl ?_); refine goesM_ (some 64) rfl rfl Try.func9 #[.slice A2 l2.length c2] rfl ?_; (with_reducible refine (laws_toInt64S.calls kj12 _ _ l2 t332 _ ?side1 ?side2 A45.out).mono ?_); (case side1 => repeat (first | exact (Kd.C_below HR2.out (by repeat (first | (with_reducible first | exact HB.out | apply below_alloc | apply pw_below_drewN | apply below_drew1 | refine below_set ?_ GE314.out | refine below_set ?_ GE326.out) | exact HB.out))) | (with_reducible refine Kd.C_alloc ?_ _) | (with_reducible refine Kd.C_drewN ?_ _) | (with_reducible refine Kd.C_drew ?_))); (case side2 => exact HC2.out); rintro e w53 ⟨v333, rfl, ho0, hb⟩; refine ⟨_, rfl, ?_⟩; have n0_ := Aside0.mk (Kd.R_elder' (rs HO_11) (Kd.R_base ho0) hb); have n1_ := Aside0.mk (Kd.R_elder' (rs HO_12) (Kd.R_base ho0) hb); have n2_ := Aside0.mk (Kd.R_elder' (rs HO_315001) (Kd.R_base ho0) hb); have n3_ := Aside0.mk (Kd.R_elder' (rs HO_327001) (Kd.R_base ho0) hb); have n4_ := Aside0.mk (Kd.R_elder' (rs HO330) (Kd.R_base ho0) hb); have n5_ := Aside0.mk (Kd.R_lower (Kd.R_new' (Kd.R_new' (Kd.R_new' (Kd.R_new' (Kd.R_new' ho0 (Kd.R_lt (rs HO_11))) (Kd.R_lt (rs HO_12))) (Kd.R_lt (rs HO_315001))) (Kd.R_lt (rs HO_327001))) (Kd.R_lt (rs HO330))) (below_size (by repeat (first | (with_reducible first | exact HB.out | apply below_alloc | apply pw_below_drewN | apply below_drew1 | refine below_set ?_ GE314.out | refine below_set ?_ GE326.out) | exact HB.out)))); have n6_ := Aside0.mk (blk_below (g := gb314) (o := .cells #[.int .i64 t309, .slice Ao21 t310.length co21] 24 (0, 0)) (by (with_reducible repeat (first | refine blk_drewN ?_ _ | refine blk_drew ?_ | refine blk_alloc ?_ _)); exact BK314.out) hb); have n7_ := Aside0.mk (blk_below (g := gb326) (o := .cells #[.int .i64 t321, .slice Ao30 t322.length co30] 24 (0, 0)) (by (with_reducible repeat (first | refine blk_drewN ?_ _ | refine blk_drew ?_ | refine blk_alloc ?_ _)); exact BK326.out) hb); have n8_ := Aside0.mk (below_step (by repeat (first | (with_reducible first | exact HB.out | apply below_alloc | apply pw_below_drewN | apply below_drew1 | refine below_set ?_ GE314.out | refine below_set ?_ GE326.out) | exact HB.out)) hb); clear HO_11; clear HO_12; clear HO_315001; clear HO_327001; clear HO330; clear BK314; clear BK326; clear HB; have HO_11 := n0_; have HO_12 := n1_; have HO_315001 := n2_; have HO_327001 := n3_; have HO330 := n4_; have HO334 := n5_; have BK314 := n6_; have BK326 := n7_; have HB := n8_; clear n0_ n1_ n2_ n3_ n4_ n5_ n6_ n7_ n8_; (try clear hb); (try clear hb2); (try clear hk); (try clear hi); (try clear ho0); obtain ⟨Ao54, co54, eo54⟩ := Kd.R_slice HO334.out; subst eo54) | ((with_reducible refine gate_callee (f := 12) rfl ?_); refine goesM_ (some 65) rfl rfl Try.func12 #[.slice Ao25 t318.length co25, .slice Ao54 t332.length co54] rfl ?_; (with_reducible refine (laws_eqInt64S.calls kj12 _ _ t318 _ _ t332 true _ ?side1 ?side2 ?side3 ?side4 A46.out).mono ?_); (case side1 => exact cs ((Kd.R_reads' HO_12.out).2.2)); (case side2 => exact (Kd.R_reads' HO_12.out).2.1); (case side3 => exact cs ((Kd.R_reads' HO334.out).2.2)); (case side4 => exact (Kd.R_reads' HO334.out).2.1); rintro e w' ⟨rfl, ⟨nd, rfl⟩⟩; refine ⟨_, rfl, ?_⟩) | ((with_reducible refine gate_callee (f := 13) rfl ?_); refine goesM_ (some 69) rfl rfl Try.func13 #[.slice Ao24 t315.length co24, .int .i64 1] rfl ?_; (with_reducible refine (laws_markInt64S.calls kj12 (fun k_ => some k_ = (.slice Ao24 t315.length co24 : Value).ownBlock) (.slice Ao24 t315.length co24) t315 1 t336 t337 w _ ?side1 ?side2 A48.out).mono ?_); (case side1 => repeat (first | (with_reducible first | exact HB.out | apply below_alloc | apply pw_below_drewN | apply below_drew1 | refine below_set ?_ GE314.out | refine below_set ?_ GE326.out) | exact HB.out)); (case side2 => exact Kd.R_tight rfl HO_11.out); rintro e w55 ⟨rfl, hy0, hb, hkp⟩; refine ⟨_, rfl, ?_⟩; have n0_ := Aside0.mk (Kd.R_reok rfl hy0 (fun k_ e_ => HO_11.out.1 k_ e_)); have n1_ := Aside0.mk (Kd.R_mono (ok' := fun k_ => some k_ ≠ (.slice Ao24 t315.length co24 : Value).ownBlock ∧ some k_ ≠ (.slice Ao21 t310.length co21 : Value).ownBlock ∧ some k_ ≠ (.slice Ao30 t322.length co30 : Value).ownBlock ∧ some k_ ≠ (.slice Ao52 t328.length co52 : Value).ownBlock ∧ some k_ ≠ (.slice Ao54 t332.length co54 : Value).ownBlock) (Kd.R_keptB (HO_12.out) hkp (fun k_ hk_ hs_ => (hk_.1.1.1) hs_)) (fun k_ hk_ => ⟨hk_.1.1.1.1, hk_.1.1.1.2.1, hk_.1.1.1.2.2, hk_.1.1.2, hk_.1.2⟩)); have n2_ := Aside0.mk (Kd.R_mono (ok' := fun k_ => some k_ ≠ (.slice Ao24 t315.length co24 : Value).ownBlock ∧ some k_ ≠ (.slice Ao25 t318.length co25 : Value).ownBlock ∧ some k_ ≠ (.slice Ao30 t322.length co30 : Value).ownBlock ∧ some k_ ≠ (.slice Ao52 t328.length co52 : Value).ownBlock ∧ some k_ ≠ (.slice Ao54 t332.length co54 : Value).ownBlock) (Kd.R_keptB (HO_315001.out) hkp (fun k_ hk_ hs_ => (hk_.1.1.1) hs_)) (fun k_ hk_ => ⟨hk_.1.1.1.1, hk_.1.1.1.2.1, hk_.1.1.1.2.2, hk_.1.1.2, hk_.1.2⟩)); have n3_ := Aside0.mk (Kd.R_mono (ok' := fun k_ => some k_ ≠ (.slice Ao24 t315.length co24 : Value).ownBlock ∧ some k_ ≠ (.slice Ao25 t318.length co25 : Value).ownBlock ∧ some k_ ≠ (.slice Ao21 t310.length co21 : Value).ownBlock ∧ some k_ ≠ (.slice Ao52 t328.length co52 : Value).ownBlock ∧ some k_ ≠ (.slice Ao54 t332.length co54 : Value).ownBlock) (Kd.R_keptB (HO_327001.out) hkp (fun k_ hk_ hs_ => (hk_.1.1.1) hs_)) (fun k_ hk_ => ⟨hk_.1.1.1.1, hk_.1.1.1.2.1, hk_.1.1.1.2.2, hk_.1.1.2, hk_.1.2⟩)); have n4_ := Aside0.mk (blk_kept (by (with_reducible repeat (first | refine blk_drewN ?_ _ | refine blk_drew ?_ | refine blk_alloc ?_ _)); exact BK314.out) hkp (fun hs_ => (fun e_ => (Kd.R_ne HO_11.out BK314.out (by decide)) e_) hs_)); have n5_ := Aside0.mk (blk_kept (by (with_reducible repeat (first | refine blk_drewN ?_ _ | refine blk_drew ?_ | refine blk_alloc ?_ _)); exact BK326.out) hkp (fun hs_ => (fun e_ => (Kd.R_ne HO_11.out BK326.out (by decide)) e_) hs_)); have n6_ := Aside0.mk (Kd.R_mono (ok' := fun k_ => some k_ ≠ (.slice Ao24 t315.length co24 : Value).ownBlock ∧ some k_ ≠ (.slice Ao25 t318.length co25 : Value).ownBlock ∧ some k_ ≠ (.slice Ao21 t310.length co21 : Value).ownBlock ∧ some k_ ≠ (.slice Ao30 t322.length co30 : Value).ownBlock ∧ some k_ ≠ (.slice Ao54 t332.length co54 : Value).ownBlock) (Kd.R_keptB (HO330.out) hkp (fun k_ hk_ hs_ => (hk_.1.1.1.1.2) hs_)) (fun k_ hk_ => ⟨hk_.1.1.1.1.1.2, hk_.1.1.1.1.2, hk_.1.1.1.2, hk_.1.1.2, hk_.1.2⟩)); have n7_ := Aside0.mk (Kd.R_mono (ok' := fun k_ => some k_ ≠ (.slice Ao24 t315.length co24 : Value).ownBlock ∧ some k_ ≠ (.slice Ao25 t318.length co25 : Value).ownBlock ∧ some k_ ≠ (.slice Ao21 t310.length co21 : Value).ownBlock ∧ some k_ ≠ (.slice Ao30 t322.length co30 : Value).ownBlock ∧ some k_ ≠ (.slice Ao52 t328.length co52 : Value).ownBlock) (Kd.R_keptB (HO334.out) hkp (fun k_ hk_ hs_ => (hk_.1.1.1.1.2) hs_)) (fun k_ hk_ => ⟨hk_.1.1.1.1.1.2, hk_.1.1.1.1.2, hk_.1.1.1.2, hk_.1.1.2, hk_.1.2⟩)); have n8_ := Aside0.mk (hb); clear HO_11; clear HO_12; clear HO_315001; clear HO_327001; clear BK314; clear BK326; clear HO330; clear HO334; clear HB; have HO_11 := n0_; have HO_12 := n1_; have HO_315001 := n2_; have HO_327001 := n3_; have BK314 := n4_; have BK326 := n5_; have HO330 := n6_; have HO334 := n7_; have HB := n8_; clear n0_ n1_ n2_ n3_ n4_ n5_ n6_ n7_ n8_; (try clear hb); (try clear hkp); (try clear hy0)) | ((with_reducible refine gate_callee (f := 13) rfl ?_); refine goesM_ (some 72) rfl rfl Try.func13 #[.slice Ao25 t318.length co25, .int .i64 t336] rfl ?_; (with_reducible refine (laws_markInt64S.calls kj12 (fun k_ => some k_ = (.slice Ao25 t318.length co25 : Value).ownBlock) (.slice Ao25 t318.length co25) t318 t336 t338 t339 w _ ?side1 ?side2 A49.out).mono ?_); (case side1 => repeat (first | (with_reducible first | exact HB.out | apply below_alloc | apply pw_below_drewN | apply below_drew1 | refine below_set ?_ GE314.out | refine below_set ?_ GE326.out) | exact HB.out)); (case side2 => exact Kd.R_tight rfl HO_12.out); rintro e w56 ⟨rfl, hy0, hb, hkp⟩; refine ⟨_, rfl, ?_⟩; have n0_ := Aside0.mk (Kd.R_mono (ok' := fun k_ => some k_ ≠ (.slice Ao25 t318.length co25 : Value).ownBlock ∧ some k_ ≠ (.slice Ao21 t310.length co21 : Value).ownBlock ∧ some k_ ≠ (.slice Ao30 t322.length co30 : Value).ownBlock ∧ some k_ ≠ (.slice Ao52 t328.length co52 : Value).ownBlock ∧ some k_ ≠ (.slice Ao54 t332.length co54 : Value).ownBlock) (Kd.R_keptB (HO_11.out) hkp (fun k_ hk_ hs_ => (hk_.1.1.1) hs_)) (fun k_ hk_ => ⟨hk_.1.1.1.1, hk_.1.1.1.2.1, hk_.1.1.1.2.2, hk_.1.1.2, hk_.1.2⟩)); have n1_ := Aside0.mk (Kd.R_reok rfl hy0 (fun k_ e_ => HO_12.out.1 k_ e_)); have n2_ := Aside0.mk (Kd.R_mono (ok' := fun k_ => some k_ ≠ (.slice Ao24 t315.length co24 : Value).ownBlock ∧ some k_ ≠ (.slice Ao25 t318.length co25 : Value).ownBlock ∧ some k_ ≠ (.slice Ao30 t322.length co30 : Value).ownBlock ∧ some k_ ≠ (.slice Ao52 t328.length co52 : Value).ownBlock ∧ some k_ ≠ (.slice Ao54 t332.length co54 : Value).ownBlock) (Kd.R_keptB (HO_315001.out) hkp (fun k_ hk_ hs_ => (hk_.2.1) hs_)) (fun k_ hk_ => ⟨hk_.1.1, hk_.1.2.1, hk_.1.2.2.1, hk_.1.2.2.2.1, hk_.1.2.2.2.2⟩)); have n3_ := Aside0.mk (Kd.R_mono (ok' := fun k_ => some k_ ≠ (.slice Ao24 t315.length co24 : Value).ownBlock ∧ some k_ ≠ (.slice Ao25 t318.length co25 : Value).ownBlock ∧ some k_ ≠ (.slice Ao21 t310.length co21 : Value).ownBlock ∧ some k_ ≠ (.slice Ao52 t328.length co52 : Value).ownBlock ∧ some k_ ≠ (.slice Ao54 t332.length co54 : Value).ownBlock) (Kd.R_keptB (HO_327001.out) hkp (fun k_ hk_ hs_ => (hk_.2.1) hs_)) (fun k_ hk_ => ⟨hk_.1.1, hk_.1.2.1, hk_.1.2.2.1, hk_.1.2.2.2.1, hk_.1.2.2.2.2⟩)); have n4_ := Aside0.mk (blk_kept (by (with_reducible repeat (first | refine blk_drewN ?_ _ | refine blk_drew ?_ | refine blk_alloc ?_ _)); exact BK314.out) hkp (fun hs_ => (fun e_ => (Kd.R_ne HO_12.out BK314.out (by decide)) e_) hs_)); have n5_ := Aside0.mk (blk_kept (by (with_reducible repeat (first | refine blk_drewN ?_ _ | refine blk_drew ?_ | refine blk_alloc ?_ _)); exact BK326.out) hkp (fun hs_ => (fun e_ => (Kd.R_ne HO_12.out BK326.out (by decide)) e_) hs_)); have n6_ := Aside0.mk (Kd.R_mono (ok' := fun k_ => some k_ ≠ (.slice Ao24 t315.length co24 : Value).ownBlock ∧ some k_ ≠ (.slice Ao25 t318.length co25 : Value).ownBlock ∧ some k_ ≠ (.slice Ao21 t310.length co21 : Value).ownBlock ∧ some k_ ≠ (.slice Ao30 t322.length co30 : Value).ownBlock ∧ some k_ ≠ (.slice Ao54 t332.length co54 : Value).ownBlock) (Kd.R_keptB (HO330.out) hkp (fun k_ hk_ hs_ => (hk_.2.1) hs_)) (fun k_ hk_ => ⟨hk_.1.1, hk_.1.2.1, hk_.1.2.2.1, hk_.1.2.2.2.1, hk_.1.2.2.2.2⟩)); have n7_ := Aside0.mk (Kd.R_mono (ok' := fun k_ => some k_ ≠ (.slice Ao24 t315.length co24 : Value).ownBlock ∧ some k_ ≠ (.slice Ao25 t318.length co25 : Value).ownBlock ∧ some k_ ≠ (.slice Ao21 t310.length co21 : Value).ownBlock ∧ some k_ ≠ (.slice Ao30 t322.length co30 : Value).ownBlock ∧ some k_ ≠ (.slice Ao52 t328.length co52 : Value).ownBlock) (Kd.R_keptB (HO334.out) hkp (fun k_ hk_ hs_ => (hk_.2.1) hs_)) (fun k_ hk_ => ⟨hk_.1.1, hk_.1.2.1, hk_.1.2.2.1, hk_.1.2.2.2.1, hk_.1.2.2.2.2⟩)); have n8_ := Aside0.mk (hb); clear HO_11; clear HO_12; clear HO_315001; clear HO_327001; clear BK314; clear BK326; clear HO330; clear HO334; clear HB; have HO_11 := n0_; have HO_12 := n1_; have HO_315001 := n2_; have HO_327001 := n3_; have BK314 := n4_; have BK326 := n5_; have HO330 := n6_; have HO334 := n7_; have HB := n8_; clear n0_ n1_ n2_ n3_ n4_ n5_ n6_ n7_ n8_; (try clear hb); (try clear hkp); (try clear hy0)))
                (try simp only [Act.put, List.setIfInBounds_toArray, List.set_cons_zero, List.set_cons_succ])
                go_cut [85] (fun v85 wc => ∃ (kq : Nat) (x85_49 : Bool), v85 = .bool x85_49 ∧ Aside0 (laws_FnExactMomentsOfNodes.j1 kq a0 l1 l2 a3 t313 x85_49 t309 t310 t321 t322 = some r) ∧ Aside0 (kq ≤ kj12) ∧ Aside0 (Kd.R (Kd.int .i64) 2 wc w.heap.size (fun k_ => some k_ ≠ ((.slice Ao30 t322.length co30) : Value).ownBlock) (.slice Ao21 t310.length co21) t310) ∧ Aside0 (Kd.R (Kd.int .i64) 2 wc w.heap.size (fun k_ => some k_ ≠ ((.slice Ao21 t310.length co21) : Value).ownBlock) (.slice Ao30 t322.length co30) t322) ∧ Aside0 (wc.heap[gb314]? = some (.cells #[.int .i64 t309, (.slice Ao21 t310.length co21)] 24 (0, 0))) ∧ Aside0 (wc.heap[gb326]? = some (.cells #[.int .i64 t321, (.slice Ao30 t322.length co30)] 24 (0, 0))) ∧ Aside0 (Below w.heap.size w wc))
                case first =>
                  have H := HC50.out
                  clear HC50
                  by_cases c57 : t338 < 0
                  · rw [if_pos c57] at H
                    have c57b0 : decide (t338 < 0) = true := decide_eq_true c57
                    clear c57
                    (first | rw [c57b0] | (simp only [i64_w, i32_w]; rw [c57b0]) | skip)
                    have H' := Aside0.mk H
                    clear H
                    go_wp2
                    go_meet
                    case rel => exact ⟨_, (true), ea_, H', ⟨by have := HJ12.out; first | omega | exact Nat.le_refl _⟩, ⟨by (with_reducible repeat (first | apply Kd.R_alloc | apply Kd.R_drewN | apply Kd.R_drew)); exact Kd.R_mono HO_315001.out (fun _ hk => hk.2.2.1)⟩, ⟨by (with_reducible repeat (first | apply Kd.R_alloc | apply Kd.R_drewN | apply Kd.R_drew)); exact Kd.R_mono HO_327001.out (fun _ hk => hk.2.2.1)⟩, ⟨by (with_reducible repeat (first | refine blk_drewN ?_ _ | refine blk_drew ?_ | refine blk_alloc ?_ _)); exact BK314.out⟩, ⟨by (with_reducible repeat (first | refine blk_drewN ?_ _ | refine blk_drew ?_ | refine blk_alloc ?_ _)); exact BK326.out⟩, ⟨by repeat (first | (with_reducible first | exact HB.out | apply below_alloc | apply pw_below_drewN | apply below_drew1 | refine below_set ?_ GE314.out | refine below_set ?_ GE326.out) | exact HB.out)⟩⟩
                  · rw [if_neg c57] at H
                    have c57b0 : decide (t338 < 0) = false := decide_eq_false c57
                    clear c57
                    (first | rw [c57b0] | (simp only [i64_w, i32_w]; rw [c57b0]) | skip)
                    replace H := Option.bind_eq_some_iff.mp H
                    obtain ⟨t340, A580, H⟩ := H
                    have A58 := Aside0.mk A580
                    clear A580
                    by_cases c59 : t340 = true
                    · subst c59
                      have H1 : (laws_FnExactMomentsOfNodes.j1 kj12 a0 l1 l2 a3 t313 (t325 != t313) t309 t310 t321 t322) = some r := by rw [if_pos rfl] at H; exact H
                      clear H
                      have H := H1
                      clear H1
                      have H' := Aside0.mk H
                      clear H
                      have hnb60 := NB326_314.out
                      have hnc60 := NB314_326.out
                      have hcz61_0 : w56.cell? ⟨gb326, 0, none⟩ = some (.int .i64 t321) := (blk_cell BK326.out 0).trans rfl
                      have hcz61_1 : w56.cell? ⟨gb326, 1, none⟩ = some (.slice Ao30 t322.length co30) := (blk_cell BK326.out 1).trans rfl
                      have hfz61_0 := blk_frozen BK326.out 0
                      have hfz61_1 := blk_frozen BK326.out 1
                      have hcz62_0 : w56.cell? ⟨gb314, 0, none⟩ = some (.int .i64 t309) := (blk_cell BK314.out 0).trans rfl
                      have hcz62_1 : w56.cell? ⟨gb314, 1, none⟩ = some (.slice Ao21 t310.length co21) := (blk_cell BK314.out 1).trans rfl
                      have hfz62_0 := blk_frozen BK314.out 0
                      have hfz62_1 := blk_frozen BK314.out 1
                      go_wp2_with (first | (go_at_call 11; (with_reducible refine (laws_eqMoments.calls kj12 t321 _ _ t322 t309 _ _ t310 true _ ?side1 ?side2 ?side3 ?side4 A58.out).mono ?_); (case side1 => exact cs ((Kd.R_reads' HO_327001.out).2.2)); (case side2 => exact (Kd.R_reads' HO_327001.out).2.1); (case side3 => exact cs ((Kd.R_reads' HO_315001.out).2.2)); (case side4 => exact (Kd.R_reads' HO_315001.out).2.1); rintro e w63 ⟨rfl, hb⟩; have n0_ := Aside0.mk (Kd.R_below (rs HO_11) hb); have n1_ := Aside0.mk (Kd.R_below (rs HO_12) hb); have n2_ := Aside0.mk (Kd.R_below (rs HO_315001) hb); have n3_ := Aside0.mk (Kd.R_below (rs HO_327001) hb); have n4_ := Aside0.mk (Kd.R_below (rs HO330) hb); have n5_ := Aside0.mk (Kd.R_below (rs HO334) hb); have n6_ := Aside0.mk (blk_below (g := gb314) (o := .cells #[.int .i64 t309, .slice Ao21 t310.length co21] 24 (0, 0)) (by (with_reducible repeat (first | refine blk_drewN ?_ _ | refine blk_drew ?_ | refine blk_alloc ?_ _)); exact BK314.out) hb); have n7_ := Aside0.mk (blk_below (g := gb326) (o := .cells #[.int .i64 t321, .slice Ao30 t322.length co30] 24 (0, 0)) (by (with_reducible repeat (first | refine blk_drewN ?_ _ | refine blk_drew ?_ | refine blk_alloc ?_ _)); exact BK326.out) hb); have n8_ := Aside0.mk (below_step (by repeat (first | (with_reducible first | exact HB.out | apply below_alloc | apply pw_below_drewN | apply below_drew1 | refine below_set ?_ GE314.out | refine below_set ?_ GE326.out) | exact HB.out)) hb); clear HO_11; clear HO_12; clear HO_315001; clear HO_327001; clear HO330; clear HO334; clear BK314; clear BK326; clear HB; have HO_11 := n0_; have HO_12 := n1_; have HO_315001 := n2_; have HO_327001 := n3_; have HO330 := n4_; have HO334 := n5_; have BK314 := n6_; have BK326 := n7_; have HB := n8_; clear n0_ n1_ n2_ n3_ n4_ n5_ n6_ n7_ n8_; (try clear hb); (try clear hb2); (try clear hk); (try clear hi)))
                      go_meet
                      case rel => exact ⟨_, ((t325 != t313)), ea_, H', ⟨by have := HJ12.out; first | omega | exact Nat.le_refl _⟩, ⟨by (with_reducible repeat (first | apply Kd.R_alloc | apply Kd.R_drewN | apply Kd.R_drew)); exact Kd.R_mono HO_315001.out (fun _ hk => hk.2.2.1)⟩, ⟨by (with_reducible repeat (first | apply Kd.R_alloc | apply Kd.R_drewN | apply Kd.R_drew)); exact Kd.R_mono HO_327001.out (fun _ hk => hk.2.2.1)⟩, ⟨by (with_reducible repeat (first | refine blk_drewN ?_ _ | refine blk_drew ?_ | refine blk_alloc ?_ _)); exact BK314.out⟩, ⟨by (with_reducible repeat (first | refine blk_drewN ?_ _ | refine blk_drew ?_ | refine blk_alloc ?_ _)); exact BK326.out⟩, ⟨by repeat (first | (with_reducible first | exact HB.out | apply below_alloc | apply pw_below_drewN | apply below_drew1 | refine below_set ?_ GE314.out | refine below_set ?_ GE326.out) | exact HB.out)⟩⟩
                    · replace c59 := Bool.eq_false_iff.mpr c59
                      subst c59
                      have H1 : (laws_FnExactMomentsOfNodes.j1 kj12 a0 l1 l2 a3 t313 true t309 t310 t321 t322) = some r := by rw [if_neg (show ¬ (false = true) by decide)] at H; exact H
                      clear H
                      have H := H1
                      clear H1
                      have H' := Aside0.mk H
                      clear H
                      have hnb64 := NB326_314.out
                      have hnc64 := NB314_326.out
                      have hcz65_0 : w56.cell? ⟨gb326, 0, none⟩ = some (.int .i64 t321) := (blk_cell BK326.out 0).trans rfl
                      have hcz65_1 : w56.cell? ⟨gb326, 1, none⟩ = some (.slice Ao30 t322.length co30) := (blk_cell BK326.out 1).trans rfl
                      have hfz65_0 := blk_frozen BK326.out 0
                      have hfz65_1 := blk_frozen BK326.out 1
                      have hcz66_0 : w56.cell? ⟨gb314, 0, none⟩ = some (.int .i64 t309) := (blk_cell BK314.out 0).trans rfl
                      have hcz66_1 : w56.cell? ⟨gb314, 1, none⟩ = some (.slice Ao21 t310.length co21) := (blk_cell BK314.out 1).trans rfl
                      have hfz66_0 := blk_frozen BK314.out 0
                      have hfz66_1 := blk_frozen BK314.out 1
                      go_wp2_with (first | (go_at_call 11; (with_reducible refine (laws_eqMoments.calls kj12 t321 _ _ t322 t309 _ _ t310 false _ ?side1 ?side2 ?side3 ?side4 A58.out).mono ?_); (case side1 => exact cs ((Kd.R_reads' HO_327001.out).2.2)); (case side2 => exact (Kd.R_reads' HO_327001.out).2.1); (case side3 => exact cs ((Kd.R_reads' HO_315001.out).2.2)); (case side4 => exact (Kd.R_reads' HO_315001.out).2.1); rintro e w67 ⟨rfl, hb⟩; have n0_ := Aside0.mk (Kd.R_below (rs HO_11) hb); have n1_ := Aside0.mk (Kd.R_below (rs HO_12) hb); have n2_ := Aside0.mk (Kd.R_below (rs HO_315001) hb); have n3_ := Aside0.mk (Kd.R_below (rs HO_327001) hb); have n4_ := Aside0.mk (Kd.R_below (rs HO330) hb); have n5_ := Aside0.mk (Kd.R_below (rs HO334) hb); have n6_ := Aside0.mk (blk_below (g := gb314) (o := .cells #[.int .i64 t309, .slice Ao21 t310.length co21] 24 (0, 0)) (by (with_reducible repeat (first | refine blk_drewN ?_ _ | refine blk_drew ?_ | refine blk_alloc ?_ _)); exact BK314.out) hb); have n7_ := Aside0.mk (blk_below (g := gb326) (o := .cells #[.int .i64 t321, .slice Ao30 t322.length co30] 24 (0, 0)) (by (with_reducible repeat (first | refine blk_drewN ?_ _ | refine blk_drew ?_ | refine blk_alloc ?_ _)); exact BK326.out) hb); have n8_ := Aside0.mk (below_step (by repeat (first | (with_reducible first | exact HB.out | apply below_alloc | apply pw_below_drewN | apply below_drew1 | refine below_set ?_ GE314.out | refine below_set ?_ GE326.out) | exact HB.out)) hb); clear HO_11; clear HO_12; clear HO_315001; clear HO_327001; clear HO330; clear HO334; clear BK314; clear BK326; clear HB; have HO_11 := n0_; have HO_12 := n1_; have HO_315001 := n2_; have HO_327001 := n3_; have HO330 := n4_; have HO334 := n5_; have BK314 := n6_; have BK326 := n7_; have HB := n8_; clear n0_ n1_ n2_ n3_ n4_ n5_ n6_ n7_ n8_; (try clear hb); (try clear hb2); (try clear hk); (try clear hi)))
                      go_meet
                      case rel => exact ⟨_, (true), ea_, H', ⟨by have := HJ12.out; first | omega | exact Nat.le_refl _⟩, ⟨by (with_reducible repeat (first | apply Kd.R_alloc | apply Kd.R_drewN | apply Kd.R_drew)); exact Kd.R_mono HO_315001.out (fun _ hk => hk.2.2.1)⟩, ⟨by (with_reducible repeat (first | apply Kd.R_alloc | apply Kd.R_drewN | apply Kd.R_drew)); exact Kd.R_mono HO_327001.out (fun _ hk => hk.2.2.1)⟩, ⟨by (with_reducible repeat (first | refine blk_drewN ?_ _ | refine blk_drew ?_ | refine blk_alloc ?_ _)); exact BK314.out⟩, ⟨by (with_reducible repeat (first | refine blk_drewN ?_ _ | refine blk_drew ?_ | refine blk_alloc ?_ _)); exact BK326.out⟩, ⟨by repeat (first | (with_reducible first | exact HB.out | apply below_alloc | apply pw_below_drewN | apply below_drew1 | refine below_set ?_ GE314.out | refine below_set ?_ GE326.out) | exact HB.out)⟩⟩
                case rest =>
                  clear HC50
                  try clear c1
                  try clear c2
                  try clear p2
                  try clear c3
                  try clear c4
                  try clear c5
                  try clear c5b0
                  try clear c5b1
                  try clear c6
                  try clear c6b0
                  try clear c6b1
                  try clear c8
                  try clear c9
                  try clear c10
                  try clear c11
                  try clear c12
                  try clear c13
                  try clear c28
                  try clear c32
                  try clear c33
                  try clear c37
                  try clear c41
                  try clear c44
                  try clear c47
                  try clear c57
                  try clear c57b0
                  try clear c59
                  try clear c60
                  try clear c64
                  try clear hcz20_0
                  try clear hcz20_1
                  try clear hcz29_0
                  try clear hcz29_1
                  try clear hcz34_0
                  try clear hcz34_1
                  try clear hcz35_0
                  try clear hcz35_1
                  try clear hcz38_0
                  try clear hcz38_1
                  try clear hcz39_0
                  try clear hcz39_1
                  try clear hcz61_0
                  try clear hcz61_1
                  try clear hcz62_0
                  try clear hcz62_1
                  try clear hcz65_0
                  try clear hcz65_1
                  try clear hcz66_0
                  try clear hcz66_1
                  try clear hfz20_0
                  try clear hfz20_1
                  try clear hfz29_0
                  try clear hfz29_1
                  try clear hfz34_0
                  try clear hfz34_1
                  try clear hfz35_0
                  try clear hfz35_1
                  try clear hfz38_0
                  try clear hfz38_1
                  try clear hfz39_0
                  try clear hfz39_1
                  try clear hfz61_0
                  try clear hfz61_1
                  try clear hfz62_0
                  try clear hfz62_1
                  try clear hfz65_0
                  try clear hfz65_1
                  try clear hfz66_0
                  try clear hfz66_1
                  try clear p2
                  obtain ⟨kq, x85_49, rfl, HA, HJ49, HO_315001, HO_327001, BK314, BK326, HB⟩ := hcut
                  cases kq with
                  | zero => exact absurd HA.out (by simp [laws_FnExactMomentsOfNodes.j1])
                  | succ kj49 =>
                    have H := HA.out
                    clear HA
                    simp only [laws_FnExactMomentsOfNodes.j1] at H
                    by_cases c68 : x85_49 = true
                    · subst c68
                      have H1 : (some false) = some r := by rw [if_pos rfl] at H; exact H
                      clear H
                      have H := H1
                      clear H1
                      obtain rfl := Option.some.inj H
                      go_wp2
                      go_ret
                      exact ⟨by first | rfl | (simp [errW_none, errW_some] <;> rfl) | (simp [*, errW_none, errW_some] <;> rfl), by repeat (first | (with_reducible first | exact HB.out | apply below_alloc | apply pw_below_drewN | apply below_drew1 | refine below_set ?_ GE314.out | refine below_set ?_ GE326.out) | exact HB.out)⟩
                    · replace c68 := Bool.eq_false_iff.mpr c68
                      subst c68
                      have H1 : ((laws_markMoments.f kj49 t321 t322 1).bind fun bt341 => ((laws_heldMoments.f kj49 t321 bt341.2 1).bind fun t343 => (if t343 < 0 then (some false) else (if t343 = bt341.1 then ((laws_toInt64S.f kj49 l1).bind fun t344 => ((laws_toInt64S.f kj49 l2).bind fun t347 => ((impl_MomentsOfNodes.f kj49 a0 t344 t347 a3).bind fun bt350 => ((laws_eqMoments.f kj49 bt350.1 bt350.2.1 t309 t310).bind fun t356 => (if t356 = true then (laws_FnExactMomentsOfNodes.j2 kj49 bt341.1 (bt350.2.2 != t313) t321 bt341.2) else (laws_FnExactMomentsOfNodes.j2 kj49 bt341.1 true t321 bt341.2)))))) else (some false))))) = some r := by rw [if_neg (show ¬ (false = true) by decide)] at H; exact H
                      clear H
                      have H := H1
                      clear H1
                      replace H := Option.bind_eq_some_iff.mp H
                      obtain ⟨⟨t341, t342⟩, A690, H⟩ := H
                      have A69 := Aside0.mk A690
                      clear A690
                      replace H := Option.bind_eq_some_iff.mp H
                      obtain ⟨t343, A700, H⟩ := H
                      have A70 := Aside0.mk A700
                      clear A700
                      by_cases c71 : t343 < 0
                      · rw [if_pos c71] at H
                        have c71b0 : decide (t343 < 0) = true := decide_eq_true c71
                        clear c71
                        obtain rfl := Option.some.inj H
                        have hnb72 := NB326_314.out
                        have hnc72 := NB314_326.out
                        have hcz73_0 : wc.cell? ⟨gb326, 0, none⟩ = some (.int .i64 t321) := (blk_cell BK326.out 0).trans rfl
                        have hcz73_1 : wc.cell? ⟨gb326, 1, none⟩ = some (.slice Ao30 t322.length co30) := (blk_cell BK326.out 1).trans rfl
                        have hfz73_0 := blk_frozen BK326.out 0
                        have hfz73_1 := blk_frozen BK326.out 1
                        go_wp2_with (first | ((with_reducible refine gate_callee (f := 14) rfl ?_); refine goesM_ (some 88) rfl rfl Try.func14 #[.agg #[.int .i64 t321, .slice Ao30 t322.length co30], .int .i64 1] rfl ?_; (with_reducible refine (laws_markMoments.calls kj49 t321 (fun k_ => some k_ = (.slice Ao30 t322.length co30 : Value).ownBlock) (.slice Ao30 t322.length co30) t322 1 t341 t342 w _ ?side1 ?side2 A69.out).mono ?_); (case side1 => repeat (first | (with_reducible first | exact HB.out | apply below_alloc | apply pw_below_drewN | apply below_drew1 | refine below_set ?_ GE314.out | refine below_set ?_ GE326.out) | exact HB.out)); (case side2 => exact Kd.R_tight rfl HO_327001.out); rintro e w74 ⟨rfl, hy0, hb, hkp⟩; refine ⟨_, rfl, ?_⟩; have n0_ := Aside0.mk (Kd.R_mono (ok' := fun k_ => some k_ ≠ (.slice Ao30 t322.length co30 : Value).ownBlock) (Kd.R_keptB (HO_315001.out) hkp (fun k_ hk_ hs_ => (hk_) hs_)) (fun k_ hk_ => hk_.1)); have n1_ := Aside0.mk (Kd.R_reok rfl hy0 (fun k_ e_ => HO_327001.out.1 k_ e_)); have n2_ := Aside0.mk (blk_kept (by (with_reducible repeat (first | refine blk_drewN ?_ _ | refine blk_drew ?_ | refine blk_alloc ?_ _)); exact BK314.out) hkp (fun hs_ => (fun e_ => (Kd.R_ne HO_327001.out BK314.out (by decide)) e_) hs_)); have n3_ := Aside0.mk (blk_kept (by (with_reducible repeat (first | refine blk_drewN ?_ _ | refine blk_drew ?_ | refine blk_alloc ?_ _)); exact BK326.out) hkp (fun hs_ => (fun e_ => (Kd.R_ne HO_327001.out BK326.out (by decide)) e_) hs_)); have n4_ := Aside0.mk (hb); clear HO_315001; clear HO_327001; clear BK314; clear BK326; clear HB; have HO_315001 := n0_; have HO_327001 := n1_; have BK314 := n2_; have BK326 := n3_; have HB := n4_; clear n0_ n1_ n2_ n3_ n4_; (try clear hb); (try clear hkp); (try clear hy0); have hcz75_0 : w74.cell? ⟨gb326, 0, none⟩ = some (.int .i64 t321) := (blk_cell BK326.out 0).trans rfl; have hcz75_1 : w74.cell? ⟨gb326, 1, none⟩ = some (.slice Ao30 t322.length co30) := (blk_cell BK326.out 1).trans rfl; have hfz75_0 := blk_frozen BK326.out 0; have hfz75_1 := blk_frozen BK326.out 1) | ((with_reducible refine gate_callee (f := 15) rfl ?_); refine goesL_ (some 91) rfl rfl Try.func15 (by kernel_rfl) rfl #[.agg #[.int .i64 t321, .slice Ao30 t342.length co30], .int .i64 1] rfl (by (try simp only [List.map_toArray, List.map_cons, List.map_nil]); first | done | (rw [show t342.length = t322.length from (Kd.R_reads' HO_327001.out).1.symm] <;> rfl) | rfl | (simp only [List.length_drop, List.length_take]; rfl)) ?_; (with_reducible refine (laws_heldMoments.calls kj49 t321 _ _ t342 1 t343 _ ?side1 ?side2 A70.out).mono ?_); (case side1 => exact cs ((Kd.R_reads' HO_327001.out).2.2)); (case side2 => rw [show t342.length = t322.length from (Kd.R_reads' HO_327001.out).1.symm]; exact (Kd.R_reads' HO_327001.out).2.1); rintro e w76 ⟨rfl, hb⟩; refine ⟨_, rfl, ?_⟩; have n0_ := Aside0.mk (Kd.R_below (rs HO_315001) hb); have n1_ := Aside0.mk (Kd.R_below (rs HO_327001) hb); have n2_ := Aside0.mk (blk_below (g := gb314) (o := .cells #[.int .i64 t309, .slice Ao21 t310.length co21] 24 (0, 0)) (by (with_reducible repeat (first | refine blk_drewN ?_ _ | refine blk_drew ?_ | refine blk_alloc ?_ _)); exact BK314.out) hb); have n3_ := Aside0.mk (blk_below (g := gb326) (o := .cells #[.int .i64 t321, .slice Ao30 t322.length co30] 24 (0, 0)) (by (with_reducible repeat (first | refine blk_drewN ?_ _ | refine blk_drew ?_ | refine blk_alloc ?_ _)); exact BK326.out) hb); have n4_ := Aside0.mk (below_step (by repeat (first | (with_reducible first | exact HB.out | apply below_alloc | apply pw_below_drewN | apply below_drew1 | refine below_set ?_ GE314.out | refine below_set ?_ GE326.out) | exact HB.out)) hb); clear HO_315001; clear HO_327001; clear BK314; clear BK326; clear HB; have HO_315001 := n0_; have HO_327001 := n1_; have BK314 := n2_; have BK326 := n3_; have HB := n4_; clear n0_ n1_ n2_ n3_ n4_; (try clear hb); (try clear hb2); (try clear hk); (try clear hi)))
                        go_ret
                        exact ⟨by first | rfl | (simp [errW_none, errW_some] <;> rfl) | (simp [*, errW_none, errW_some] <;> rfl), by repeat (first | (with_reducible first | exact HB.out | apply below_alloc | apply pw_below_drewN | apply below_drew1 | refine below_set ?_ GE314.out | refine below_set ?_ GE326.out) | exact HB.out)⟩
                      · rw [if_neg c71] at H
                        have c71b0 : decide (t343 < 0) = false := decide_eq_false c71
                        clear c71
                        by_cases c77 : t343 = t341
                        · rw [if_pos c77] at H
                          have c77b0 : (t343 == t341) = true := beq_iff_eq.mpr c77
                          have c77b1 : (t343 != t341) = false := bne_eq_false_iff_eq.mpr c77
                          clear c77
                          replace H := Option.bind_eq_some_iff.mp H
                          obtain ⟨t344, A780, H⟩ := H
                          have A78 := Aside0.mk A780
                          clear A780
                          replace H := Option.bind_eq_some_iff.mp H
                          obtain ⟨t347, A790, H⟩ := H
                          have A79 := Aside0.mk A790
                          clear A790
                          replace H := Option.bind_eq_some_iff.mp H
                          obtain ⟨⟨t350, t351, t354⟩, A800, H⟩ := H
                          have A80 := Aside0.mk A800
                          clear A800
                          have HC81 := Aside0.mk H
                          clear H
                          have hnb82 := NB326_314.out
                          have hnc82 := NB314_326.out
                          have hcz83_0 : wc.cell? ⟨gb326, 0, none⟩ = some (.int .i64 t321) := (blk_cell BK326.out 0).trans rfl
                          have hcz83_1 : wc.cell? ⟨gb326, 1, none⟩ = some (.slice Ao30 t322.length co30) := (blk_cell BK326.out 1).trans rfl
                          have hfz83_0 := blk_frozen BK326.out 0
                          have hfz83_1 := blk_frozen BK326.out 1
                          go_upto_region 29 with (first | ((with_reducible refine gate_callee (f := 14) rfl ?_); refine goesM_ (some 88) rfl rfl Try.func14 #[.agg #[.int .i64 t321, .slice Ao30 t322.length co30], .int .i64 1] rfl ?_; (with_reducible refine (laws_markMoments.calls kj49 t321 (fun k_ => some k_ = (.slice Ao30 t322.length co30 : Value).ownBlock) (.slice Ao30 t322.length co30) t322 1 t341 t342 w _ ?side1 ?side2 A69.out).mono ?_); (case side1 => repeat (first | (with_reducible first | exact HB.out | apply below_alloc | apply pw_below_drewN | apply below_drew1 | refine below_set ?_ GE314.out | refine below_set ?_ GE326.out) | exact HB.out)); (case side2 => exact Kd.R_tight rfl HO_327001.out); rintro e w84 ⟨rfl, hy0, hb, hkp⟩; refine ⟨_, rfl, ?_⟩; have n0_ := Aside0.mk (Kd.R_mono (ok' := fun k_ => some k_ ≠ (.slice Ao30 t322.length co30 : Value).ownBlock) (Kd.R_keptB (HO_315001.out) hkp (fun k_ hk_ hs_ => (hk_) hs_)) (fun k_ hk_ => hk_.1)); have n1_ := Aside0.mk (Kd.R_reok rfl hy0 (fun k_ e_ => HO_327001.out.1 k_ e_)); have n2_ := Aside0.mk (blk_kept (by (with_reducible repeat (first | refine blk_drewN ?_ _ | refine blk_drew ?_ | refine blk_alloc ?_ _)); exact BK314.out) hkp (fun hs_ => (fun e_ => (Kd.R_ne HO_327001.out BK314.out (by decide)) e_) hs_)); have n3_ := Aside0.mk (blk_kept (by (with_reducible repeat (first | refine blk_drewN ?_ _ | refine blk_drew ?_ | refine blk_alloc ?_ _)); exact BK326.out) hkp (fun hs_ => (fun e_ => (Kd.R_ne HO_327001.out BK326.out (by decide)) e_) hs_)); have n4_ := Aside0.mk (hb); clear HO_315001; clear HO_327001; clear BK314; clear BK326; clear HB; have HO_315001 := n0_; have HO_327001 := n1_; have BK314 := n2_; have BK326 := n3_; have HB := n4_; clear n0_ n1_ n2_ n3_ n4_; (try clear hb); (try clear hkp); (try clear hy0); have hcz85_0 : w84.cell? ⟨gb326, 0, none⟩ = some (.int .i64 t321) := (blk_cell BK326.out 0).trans rfl; have hcz85_1 : w84.cell? ⟨gb326, 1, none⟩ = some (.slice Ao30 t322.length co30) := (blk_cell BK326.out 1).trans rfl; have hfz85_0 := blk_frozen BK326.out 0; have hfz85_1 := blk_frozen BK326.out 1) | ((with_reducible refine gate_callee (f := 15) rfl ?_); refine goesL_ (some 91) rfl rfl Try.func15 (by kernel_rfl) rfl #[.agg #[.int .i64 t321, .slice Ao30 t342.length co30], .int .i64 1] rfl (by (try simp only [List.map_toArray, List.map_cons, List.map_nil]); first | done | (rw [show t342.length = t322.length from (Kd.R_reads' HO_327001.out).1.symm] <;> rfl) | rfl | (simp only [List.length_drop, List.length_take]; rfl)) ?_; (with_reducible refine (laws_heldMoments.calls kj49 t321 _ _ t342 1 t343 _ ?side1 ?side2 A70.out).mono ?_); (case side1 => exact cs ((Kd.R_reads' HO_327001.out).2.2)); (case side2 => rw [show t342.length = t322.length from (Kd.R_reads' HO_327001.out).1.symm]; exact (Kd.R_reads' HO_327001.out).2.1); rintro e w86 ⟨rfl, hb⟩; refine ⟨_, rfl, ?_⟩; have n0_ := Aside0.mk (Kd.R_below (rs HO_315001) hb); have n1_ := Aside0.mk (Kd.R_below (rs HO_327001) hb); have n2_ := Aside0.mk (blk_below (g := gb314) (o := .cells #[.int .i64 t309, .slice Ao21 t310.length co21] 24 (0, 0)) (by (with_reducible repeat (first | refine blk_drewN ?_ _ | refine blk_drew ?_ | refine blk_alloc ?_ _)); exact BK314.out) hb); have n3_ := Aside0.mk (blk_below (g := gb326) (o := .cells #[.int .i64 t321, .slice Ao30 t322.length co30] 24 (0, 0)) (by (with_reducible repeat (first | refine blk_drewN ?_ _ | refine blk_drew ?_ | refine blk_alloc ?_ _)); exact BK326.out) hb); have n4_ := Aside0.mk (below_step (by repeat (first | (with_reducible first | exact HB.out | apply below_alloc | apply pw_below_drewN | apply below_drew1 | refine below_set ?_ GE314.out | refine below_set ?_ GE326.out) | exact HB.out)) hb); clear HO_315001; clear HO_327001; clear BK314; clear BK326; clear HB; have HO_315001 := n0_; have HO_327001 := n1_; have BK314 := n2_; have BK326 := n3_; have HB := n4_; clear n0_ n1_ n2_ n3_ n4_; (try clear hb); (try clear hb2); (try clear hk); (try clear hi)) | ((with_reducible refine gate_callee (f := 9) rfl ?_); refine goesM_ (some 100) rfl rfl Try.func9 #[.slice A1 l1.length c1] rfl ?_; (with_reducible refine (laws_toInt64S.calls kj49 _ _ l1 t344 _ ?side1 ?side2 A78.out).mono ?_); (case side1 => exact cs ((Kd.C_below HR1.out HB.out))); (case side2 => exact HC1.out); rintro e w87 ⟨v345, rfl, ho0, hb⟩; refine ⟨_, rfl, ?_⟩; have n0_ := Aside0.mk (Kd.R_elder' (rs HO_315001) (Kd.R_base ho0) hb); have n1_ := Aside0.mk (Kd.R_elder' (rs HO_327001) (Kd.R_base ho0) hb); have n2_ := Aside0.mk (Kd.R_lower (Kd.R_new' (Kd.R_new' ho0 (Kd.R_lt (rs HO_315001))) (Kd.R_lt (rs HO_327001))) (below_size (by repeat (first | (with_reducible first | exact HB.out | apply below_alloc | apply pw_below_drewN | apply below_drew1 | refine below_set ?_ GE314.out | refine below_set ?_ GE326.out) | exact HB.out)))); have n3_ := Aside0.mk (blk_below (g := gb314) (o := .cells #[.int .i64 t309, .slice Ao21 t310.length co21] 24 (0, 0)) (by (with_reducible repeat (first | refine blk_drewN ?_ _ | refine blk_drew ?_ | refine blk_alloc ?_ _)); exact BK314.out) hb); have n4_ := Aside0.mk (blk_below (g := gb326) (o := .cells #[.int .i64 t321, .slice Ao30 t322.length co30] 24 (0, 0)) (by (with_reducible repeat (first | refine blk_drewN ?_ _ | refine blk_drew ?_ | refine blk_alloc ?_ _)); exact BK326.out) hb); have n5_ := Aside0.mk (below_step (by repeat (first | (with_reducible first | exact HB.out | apply below_alloc | apply pw_below_drewN | apply below_drew1 | refine below_set ?_ GE314.out | refine below_set ?_ GE326.out) | exact HB.out)) hb); clear HO_315001; clear HO_327001; clear BK314; clear BK326; clear HB; have HO_315001 := n0_; have HO_327001 := n1_; have HO346 := n2_; have BK314 := n3_; have BK326 := n4_; have HB := n5_; clear n0_ n1_ n2_ n3_ n4_ n5_; (try clear hb); (try clear hb2); (try clear hk); (try clear hi); (try clear ho0)) | ((with_reducible refine gate_callee (f := 9) rfl ?_); refine goesM_ (some 102) rfl rfl Try.func9 #[.slice A2 l2.length c2] rfl ?_; (with_reducible refine (laws_toInt64S.calls kj49 _ _ l2 t347 _ ?side1 ?side2 A79.out).mono ?_); (case side1 => exact cs ((Kd.C_below HR2.out HB.out))); (case side2 => exact HC2.out); rintro e w88 ⟨v348, rfl, ho0, hb⟩; refine ⟨_, rfl, ?_⟩; have n0_ := Aside0.mk (Kd.R_elder' (rs HO_315001) (Kd.R_base ho0) hb); have n1_ := Aside0.mk (Kd.R_elder' (rs HO_327001) (Kd.R_base ho0) hb); have n2_ := Aside0.mk (Kd.R_elder' (rs HO346) (Kd.R_base ho0) hb); have n3_ := Aside0.mk (Kd.R_lower (Kd.R_new' (Kd.R_new' (Kd.R_new' ho0 (Kd.R_lt (rs HO_315001))) (Kd.R_lt (rs HO_327001))) (Kd.R_lt (rs HO346))) (below_size (by repeat (first | (with_reducible first | exact HB.out | apply below_alloc | apply pw_below_drewN | apply below_drew1 | refine below_set ?_ GE314.out | refine below_set ?_ GE326.out) | exact HB.out)))); have n4_ := Aside0.mk (blk_below (g := gb314) (o := .cells #[.int .i64 t309, .slice Ao21 t310.length co21] 24 (0, 0)) (by (with_reducible repeat (first | refine blk_drewN ?_ _ | refine blk_drew ?_ | refine blk_alloc ?_ _)); exact BK314.out) hb); have n5_ := Aside0.mk (blk_below (g := gb326) (o := .cells #[.int .i64 t321, .slice Ao30 t322.length co30] 24 (0, 0)) (by (with_reducible repeat (first | refine blk_drewN ?_ _ | refine blk_drew ?_ | refine blk_alloc ?_ _)); exact BK326.out) hb); have n6_ := Aside0.mk (below_step (by repeat (first | (with_reducible first | exact HB.out | apply below_alloc | apply pw_below_drewN | apply below_drew1 | refine below_set ?_ GE314.out | refine below_set ?_ GE326.out) | exact HB.out)) hb); clear HO_315001; clear HO_327001; clear HO346; clear BK314; clear BK326; clear HB; have HO_315001 := n0_; have HO_327001 := n1_; have HO346 := n2_; have HO349 := n3_; have BK314 := n4_; have BK326 := n5_; have HB := n6_; clear n0_ n1_ n2_ n3_ n4_ n5_ n6_; (try clear hb); (try clear hb2); (try clear hk); (try clear hi); (try clear ho0); obtain ⟨Ao89, co89, eo89⟩ := Kd.R_slice HO346.out; subst eo89; obtain ⟨Ao90, co90, eo90⟩ := Kd.R_slice HO349.out; subst eo90) | ((with_reducible refine gate_callee (f := 10) rfl ?_); refine goesM_ (some 104) rfl rfl Try.func10 #[.int .i64 a0, .slice Ao89 t344.length co89, .slice Ao90 t347.length co90, .int .i64 a3] rfl ?_; (with_reducible refine (impl_MomentsOfNodes.calls kj49 a0 _ _ t344 _ _ t347 a3 t350 t351 t354 _ ?side1 ?side2 ?side3 ?side4 A80.out).mono ?_); (case side1 => exact cs ((Kd.R_reads' HO346.out).2.2)); (case side2 => exact (Kd.R_reads' HO346.out).2.1); (case side3 => exact cs ((Kd.R_reads' HO349.out).2.2)); (case side4 => exact (Kd.R_reads' HO349.out).2.1); rintro e w91 ⟨v352, rfl, ho0, hb⟩; refine ⟨_, rfl, ?_⟩; have n0_ := Aside0.mk (Kd.R_elder' (rs HO_315001) (Kd.R_base ho0) hb); have n1_ := Aside0.mk (Kd.R_elder' (rs HO_327001) (Kd.R_base ho0) hb); have n2_ := Aside0.mk (Kd.R_elder' (rs HO346) (Kd.R_base ho0) hb); have n3_ := Aside0.mk (Kd.R_elder' (rs HO349) (Kd.R_base ho0) hb); have n4_ := Aside0.mk (Kd.R_lower (Kd.R_new' (Kd.R_new' (Kd.R_new' (Kd.R_new' ho0 (Kd.R_lt (rs HO_315001))) (Kd.R_lt (rs HO_327001))) (Kd.R_lt (rs HO346))) (Kd.R_lt (rs HO349))) (below_size (by repeat (first | (with_reducible first | exact HB.out | apply below_alloc | apply pw_below_drewN | apply below_drew1 | refine below_set ?_ GE314.out | refine below_set ?_ GE326.out) | exact HB.out)))); have n5_ := Aside0.mk (blk_below (g := gb314) (o := .cells #[.int .i64 t309, .slice Ao21 t310.length co21] 24 (0, 0)) (by (with_reducible repeat (first | refine blk_drewN ?_ _ | refine blk_drew ?_ | refine blk_alloc ?_ _)); exact BK314.out) hb); have n6_ := Aside0.mk (blk_below (g := gb326) (o := .cells #[.int .i64 t321, .slice Ao30 t322.length co30] 24 (0, 0)) (by (with_reducible repeat (first | refine blk_drewN ?_ _ | refine blk_drew ?_ | refine blk_alloc ?_ _)); exact BK326.out) hb); have n7_ := Aside0.mk (below_step (by repeat (first | (with_reducible first | exact HB.out | apply below_alloc | apply pw_below_drewN | apply below_drew1 | refine below_set ?_ GE314.out | refine below_set ?_ GE326.out) | exact HB.out)) hb); clear HO_315001; clear HO_327001; clear HO346; clear HO349; clear BK314; clear BK326; clear HB; have HO_315001 := n0_; have HO_327001 := n1_; have HO346 := n2_; have HO349 := n3_; have HO353 := n4_; have BK314 := n5_; have BK326 := n6_; have HB := n7_; clear n0_ n1_ n2_ n3_ n4_ n5_ n6_ n7_; (try clear hb); (try clear hb2); (try clear hk); (try clear hi); (try clear ho0)) | ((with_reducible refine gate_dst (N := 18) rfl ?_); refine box_event ?hg (N := 18) ?hd (cs := #[.int .i64 0, .slice none 0 0]) (t := 24) ?hr ?_; (case hd => rfl); (case hg => rfl); (case hr => first | (go_simp; done) | (go_simp; rfl)); intro gb355 hg w92 hbox hb; have n0_ := Aside0.mk (Kd.R_below (rs HO_315001) hb); have n1_ := Aside0.mk (Kd.R_below (rs HO_327001) hb); have n2_ := Aside0.mk (Kd.R_below (rs HO346) hb); have n3_ := Aside0.mk (Kd.R_below (rs HO349) hb); have n4_ := Aside0.mk (Kd.R_below (rs HO353) hb); have n5_ := Aside0.mk (blk_below (g := gb314) (o := .cells #[.int .i64 t309, .slice Ao21 t310.length co21] 24 (0, 0)) (by (with_reducible repeat (first | refine blk_drewN ?_ _ | refine blk_drew ?_ | refine blk_alloc ?_ _)); exact BK314.out) hb); have n6_ := Aside0.mk (blk_below (g := gb326) (o := .cells #[.int .i64 t321, .slice Ao30 t322.length co30] 24 (0, 0)) (by (with_reducible repeat (first | refine blk_drewN ?_ _ | refine blk_drew ?_ | refine blk_alloc ?_ _)); exact BK326.out) hb); have n7_ := Aside0.mk (below_step (by repeat (first | (with_reducible first | exact HB.out | apply below_alloc | apply pw_below_drewN | apply below_drew1 | refine below_set ?_ GE314.out | refine below_set ?_ GE326.out) | exact HB.out)) hb); have n8_ := Aside0.mk (hbox); have n9_ := Aside0.mk ((by rw [hg]; exact (below_size (by repeat (first | (with_reducible first | exact HB.out | apply below_alloc | apply pw_below_drewN | apply below_drew1 | refine below_set ?_ GE314.out | refine below_set ?_ GE326.out) | exact HB.out))) : w.heap.size ≤ gb355)); have n10_ := Aside0.mk ((by rw [hg]; exact (below_size (by repeat (first | (with_reducible first | exact HB.out | apply below_alloc | apply pw_below_drewN | apply below_drew1 | refine below_set ?_ GE314.out | refine below_set ?_ GE326.out) | exact HB.out))) : w.heap.size ≤ gb355)); have n11_ := Aside0.mk ((by rw [hg]; exact Nat.ne_of_lt (blk_lt (g := gb314) (o := .cells #[.int .i64 t309, .slice Ao21 t310.length co21] 24 (0, 0)) (by (with_reducible repeat (first | refine blk_drewN ?_ _ | refine blk_drew ?_ | refine blk_alloc ?_ _)); exact BK314.out)) : gb314 ≠ gb355)); have n12_ := Aside0.mk ((by rw [hg]; exact Nat.ne_of_gt (blk_lt (g := gb314) (o := .cells #[.int .i64 t309, .slice Ao21 t310.length co21] 24 (0, 0)) (by (with_reducible repeat (first | refine blk_drewN ?_ _ | refine blk_drew ?_ | refine blk_alloc ?_ _)); exact BK314.out)) : gb355 ≠ gb314)); have n13_ := Aside0.mk ((by rw [hg]; exact Nat.ne_of_lt (blk_lt (g := gb326) (o := .cells #[.int .i64 t321, .slice Ao30 t322.length co30] 24 (0, 0)) (by (with_reducible repeat (first | refine blk_drewN ?_ _ | refine blk_drew ?_ | refine blk_alloc ?_ _)); exact BK326.out)) : gb326 ≠ gb355)); have n14_ := Aside0.mk ((by rw [hg]; exact Nat.ne_of_gt (blk_lt (g := gb326) (o := .cells #[.int .i64 t321, .slice Ao30 t322.length co30] 24 (0, 0)) (by (with_reducible repeat (first | refine blk_drewN ?_ _ | refine blk_drew ?_ | refine blk_alloc ?_ _)); exact BK326.out)) : gb355 ≠ gb326)); clear HO_315001; clear HO_327001; clear HO346; clear HO349; clear HO353; clear BK314; clear BK326; clear HB; have HO_315001 := n0_; have HO_327001 := n1_; have HO346 := n2_; have HO349 := n3_; have HO353 := n4_; have BK314 := n5_; have BK326 := n6_; have HB := n7_; have BK355 := n8_; have GW355 := n9_; have GE355 := n10_; have NB314_355 := n11_; have NB355_314 := n12_; have NB326_355 := n13_; have NB355_326 := n14_; clear n0_ n1_ n2_ n3_ n4_ n5_ n6_ n7_ n8_ n9_ n10_ n11_ n12_ n13_ n14_; clear hb hbox hg; have hnb93 := NB355_314.out; have hnc93 := NB314_355.out; have hnb94 := NB355_326.out; have hnc94 := NB326_355.out; have hcz95_0 : w92.cell? ⟨gb355, 0, none⟩ = some (.int .i64 0) := (blk_cell BK355.out 0).trans rfl; have hcz95_1 : w92.cell? ⟨gb355, 1, none⟩ = some (.slice none 0 0) := (blk_cell BK355.out 1).trans rfl; have hfz95_0 := blk_frozen BK355.out 0; have hfz95_1 := blk_frozen BK355.out 1; obtain ⟨Ao96, co96, eo96⟩ := Kd.R_slice HO353.out; subst eo96))
                          (try simp only [Act.put, List.setIfInBounds_toArray, List.set_cons_zero, List.set_cons_succ])
                          go_cut [115] (fun v115 wc => ∃ (kq : Nat) (x115_80 : Bool), v115 = .bool x115_80 ∧ Aside0 (laws_FnExactMomentsOfNodes.j2 kq t341 x115_80 t321 t342 = some r) ∧ Aside0 (kq ≤ kj49) ∧ Aside0 (Kd.R (Kd.int .i64) 2 wc w.heap.size (fun k_ => some k_ ≠ ((.slice Ao30 t322.length co30) : Value).ownBlock ∧ some k_ ≠ ((.slice Ao96 t351.length co96) : Value).ownBlock) (.slice Ao21 t310.length co21) t310) ∧ Aside0 (Kd.R (Kd.int .i64) 2 wc w.heap.size (fun k_ => some k_ ≠ ((.slice Ao21 t310.length co21) : Value).ownBlock ∧ some k_ ≠ ((.slice Ao96 t351.length co96) : Value).ownBlock) (.slice Ao30 t322.length co30) t342) ∧ Aside0 (Kd.R (Kd.int .i64) 2 wc w.heap.size (fun k_ => some k_ ≠ ((.slice Ao21 t310.length co21) : Value).ownBlock ∧ some k_ ≠ ((.slice Ao30 t322.length co30) : Value).ownBlock) (.slice Ao96 t351.length co96) t351) ∧ Aside0 (wc.heap[gb314]? = some (.cells #[.int .i64 t309, (.slice Ao21 t310.length co21)] 24 (0, 0))) ∧ Aside0 (wc.heap[gb326]? = some (.cells #[.int .i64 t321, (.slice Ao30 t322.length co30)] 24 (0, 0))) ∧ Aside0 (wc.heap[gb355]? = some (.cells #[.int .i64 t350, (.slice Ao96 t351.length co96)] 24 (0, 0))) ∧ Aside0 (Below w.heap.size w wc))
                          case first =>
                            have H := HC81.out
                            clear HC81
                            replace H := Option.bind_eq_some_iff.mp H
                            obtain ⟨t356, A970, H⟩ := H
                            have A97 := Aside0.mk A970
                            clear A970
                            by_cases c98 : t356 = true
                            · subst c98
                              have H1 : (laws_FnExactMomentsOfNodes.j2 kj49 t341 (t354 != t313) t321 t342) = some r := by rw [if_pos rfl] at H; exact H
                              clear H
                              have H := H1
                              clear H1
                              have H' := Aside0.mk H
                              clear H
                              have hnb99 := NB355_314.out
                              have hnc99 := NB314_355.out
                              have hnb100 := NB355_326.out
                              have hnc100 := NB326_355.out
                              have hcz101_0 : w92.cell? ⟨gb355, 0, none⟩ = some (.int .i64 0) := (blk_cell BK355.out 0).trans rfl
                              have hcz101_1 : w92.cell? ⟨gb355, 1, none⟩ = some (.slice none 0 0) := (blk_cell BK355.out 1).trans rfl
                              have hfz101_0 := blk_frozen BK355.out 0
                              have hfz101_1 := blk_frozen BK355.out 1
                              have hnb102 := NB314_326.out
                              have hnc102 := NB326_314.out
                              have hcz103_0 : w92.cell? ⟨gb314, 0, none⟩ = some (.int .i64 t309) := (blk_cell BK314.out 0).trans rfl
                              have hcz103_1 : w92.cell? ⟨gb314, 1, none⟩ = some (.slice Ao21 t310.length co21) := (blk_cell BK314.out 1).trans rfl
                              have hfz103_0 := blk_frozen BK314.out 0
                              have hfz103_1 := blk_frozen BK314.out 1
                              go_wp2_with (first | ((with_reducible refine gate_callee (f := 11) rfl ?_); refine goesM_ (some 109) rfl rfl Try.func11 #[.agg #[.int .i64 t350, .slice Ao96 t351.length co96], .agg #[.int .i64 t309, .slice Ao21 t310.length co21]] rfl ?_; (with_reducible refine (laws_eqMoments.calls kj49 t350 _ _ t351 t309 _ _ t310 true _ ?side1 ?side2 ?side3 ?side4 A97.out).mono ?_); (case side1 => refine (Kd.R_reads' (e := 2) (base := w.heap.size) (ok := fun k_ => ((((True ∧ some k_ ≠ (.slice Ao21 t310.length co21 : Value).ownBlock) ∧ some k_ ≠ (.slice Ao30 t322.length co30 : Value).ownBlock) ∧ some k_ ≠ (.slice Ao89 t344.length co89 : Value).ownBlock) ∧ some k_ ≠ (.slice Ao90 t347.length co90 : Value).ownBlock)) (n := t351.length) (c := co96) ?_).2.2; exact (by (with_reducible repeat (first | apply Kd.R_alloc | apply Kd.R_drewN | apply Kd.R_drew)); exact (Kd.R_mono (Kd.R_far (p := ⟨gb355, 1, none⟩) (Kd.R_far (p := ⟨gb355, 0, none⟩) (Kd.R_types HO353.out BK355.out (by decide)) (fun _ hk => hk.2) (.int .i64 t350)) (fun _ hk => hk.2) (.slice Ao96 t351.length co96)) (fun _ h_ => h_.1)))); (case side2 => exact (Kd.R_reads' HO353.out).2.1); (case side3 => refine (Kd.R_reads' (e := 2) (base := w.heap.size) (ok := fun k_ => (((some k_ ≠ (.slice Ao30 t322.length co30 : Value).ownBlock ∧ some k_ ≠ (.slice Ao89 t344.length co89 : Value).ownBlock) ∧ some k_ ≠ (.slice Ao90 t347.length co90 : Value).ownBlock) ∧ some k_ ≠ (.slice Ao96 t351.length co96 : Value).ownBlock)) (n := t310.length) (c := co21) ?_).2.2; exact (by (with_reducible repeat (first | apply Kd.R_alloc | apply Kd.R_drewN | apply Kd.R_drew)); exact (Kd.R_mono (Kd.R_far (p := ⟨gb355, 1, none⟩) (Kd.R_far (p := ⟨gb355, 0, none⟩) (Kd.R_types HO_315001.out BK355.out (by decide)) (fun _ hk => hk.2) (.int .i64 t350)) (fun _ hk => hk.2) (.slice Ao96 t351.length co96)) (fun _ h_ => h_.1)))); (case side4 => exact (Kd.R_reads' HO_315001.out).2.1); rintro e w104 ⟨rfl, hb⟩; refine ⟨_, rfl, ?_⟩; have n0_ := Aside0.mk (Kd.R_below (by (with_reducible repeat (first | apply Kd.R_alloc | apply Kd.R_drewN | apply Kd.R_drew)); exact (Kd.R_mono (Kd.R_far (p := ⟨gb355, 1, none⟩) (Kd.R_far (p := ⟨gb355, 0, none⟩) (Kd.R_types HO_315001.out BK355.out (by decide)) (fun _ hk => hk.2) (.int .i64 t350)) (fun _ hk => hk.2) (.slice Ao96 t351.length co96)) (fun _ h_ => h_.1))) hb); have n1_ := Aside0.mk (Kd.R_below (by (with_reducible repeat (first | apply Kd.R_alloc | apply Kd.R_drewN | apply Kd.R_drew)); exact (Kd.R_mono (Kd.R_far (p := ⟨gb355, 1, none⟩) (Kd.R_far (p := ⟨gb355, 0, none⟩) (Kd.R_types HO_327001.out BK355.out (by decide)) (fun _ hk => hk.2) (.int .i64 t350)) (fun _ hk => hk.2) (.slice Ao96 t351.length co96)) (fun _ h_ => h_.1))) hb); have n2_ := Aside0.mk (Kd.R_below (by (with_reducible repeat (first | apply Kd.R_alloc | apply Kd.R_drewN | apply Kd.R_drew)); exact (Kd.R_mono (Kd.R_far (p := ⟨gb355, 1, none⟩) (Kd.R_far (p := ⟨gb355, 0, none⟩) (Kd.R_types HO346.out BK355.out (by decide)) (fun _ hk => hk.2) (.int .i64 t350)) (fun _ hk => hk.2) (.slice Ao96 t351.length co96)) (fun _ h_ => h_.1))) hb); have n3_ := Aside0.mk (Kd.R_below (by (with_reducible repeat (first | apply Kd.R_alloc | apply Kd.R_drewN | apply Kd.R_drew)); exact (Kd.R_mono (Kd.R_far (p := ⟨gb355, 1, none⟩) (Kd.R_far (p := ⟨gb355, 0, none⟩) (Kd.R_types HO349.out BK355.out (by decide)) (fun _ hk => hk.2) (.int .i64 t350)) (fun _ hk => hk.2) (.slice Ao96 t351.length co96)) (fun _ h_ => h_.1))) hb); have n4_ := Aside0.mk (Kd.R_below (by (with_reducible repeat (first | apply Kd.R_alloc | apply Kd.R_drewN | apply Kd.R_drew)); exact (Kd.R_mono (Kd.R_far (p := ⟨gb355, 1, none⟩) (Kd.R_far (p := ⟨gb355, 0, none⟩) (Kd.R_types HO353.out BK355.out (by decide)) (fun _ hk => hk.2) (.int .i64 t350)) (fun _ hk => hk.2) (.slice Ao96 t351.length co96)) (fun _ h_ => h_.1))) hb); have n5_ := Aside0.mk (blk_below (g := gb314) (o := .cells #[.int .i64 t309, .slice Ao21 t310.length co21] 24 (0, 0)) (by (with_reducible repeat (first | refine blk_drewN ?_ _ | refine blk_drew ?_ | refine blk_alloc ?_ _)); refine blk_far ?_ NB314_355.out _; (with_reducible repeat (first | refine blk_drewN ?_ _ | refine blk_drew ?_ | refine blk_alloc ?_ _)); refine blk_far ?_ NB314_355.out _; (with_reducible repeat (first | refine blk_drewN ?_ _ | refine blk_drew ?_ | refine blk_alloc ?_ _)); exact BK314.out) hb); have n6_ := Aside0.mk (blk_below (g := gb326) (o := .cells #[.int .i64 t321, .slice Ao30 t322.length co30] 24 (0, 0)) (by (with_reducible repeat (first | refine blk_drewN ?_ _ | refine blk_drew ?_ | refine blk_alloc ?_ _)); refine blk_far ?_ NB326_355.out _; (with_reducible repeat (first | refine blk_drewN ?_ _ | refine blk_drew ?_ | refine blk_alloc ?_ _)); refine blk_far ?_ NB326_355.out _; (with_reducible repeat (first | refine blk_drewN ?_ _ | refine blk_drew ?_ | refine blk_alloc ?_ _)); exact BK326.out) hb); have n7_ := Aside0.mk (blk_below (g := gb355) (o := .cells #[.int .i64 t350, .slice Ao96 t351.length co96] 24 (0, 0)) (by (with_reducible repeat (first | refine blk_drewN ?_ _ | refine blk_drew ?_ | refine blk_alloc ?_ _)); refine blk_put (cs := #[.int .i64 t350, .slice none 0 0]) ?_ 1 _ rfl; (with_reducible repeat (first | refine blk_drewN ?_ _ | refine blk_drew ?_ | refine blk_alloc ?_ _)); refine blk_put (cs := #[.int .i64 0, .slice none 0 0]) ?_ 0 _ rfl; (with_reducible repeat (first | refine blk_drewN ?_ _ | refine blk_drew ?_ | refine blk_alloc ?_ _)); exact BK355.out) hb); have n8_ := Aside0.mk (below_step (by repeat (first | (with_reducible first | exact HB.out | apply below_alloc | apply pw_below_drewN | apply below_drew1 | refine below_set ?_ GE314.out | refine below_set ?_ GE326.out | refine below_set ?_ GE355.out) | exact HB.out)) hb); clear HO_315001; clear HO_327001; clear HO346; clear HO349; clear HO353; clear BK314; clear BK326; clear BK355; clear HB; have HO_315001 := n0_; have HO_327001 := n1_; have HO346 := n2_; have HO349 := n3_; have HO353 := n4_; have BK314 := n5_; have BK326 := n6_; have BK355 := n7_; have HB := n8_; clear n0_ n1_ n2_ n3_ n4_ n5_ n6_ n7_ n8_; (try clear hb); (try clear hb2); (try clear hk); (try clear hi)))
                              go_meet
                              case rel => exact ⟨_, ((t354 != t313)), ea_, H', ⟨by have := HJ12.out; have := HJ49.out; first | omega | exact Nat.le_refl _⟩, ⟨by (with_reducible repeat (first | apply Kd.R_alloc | apply Kd.R_drewN | apply Kd.R_drew)); exact Kd.R_mono HO_315001.out (fun _ hk => ⟨hk.1.1.1, hk.2⟩)⟩, ⟨by (with_reducible repeat (first | apply Kd.R_alloc | apply Kd.R_drewN | apply Kd.R_drew)); exact Kd.R_mono HO_327001.out (fun _ hk => ⟨hk.1.1.1, hk.2⟩)⟩, ⟨by (with_reducible repeat (first | apply Kd.R_alloc | apply Kd.R_drewN | apply Kd.R_drew)); exact Kd.R_mono HO353.out (fun _ hk => ⟨hk.1.1.1.2, hk.1.1.2⟩)⟩, ⟨by (with_reducible repeat (first | refine blk_drewN ?_ _ | refine blk_drew ?_ | refine blk_alloc ?_ _)); exact BK314.out⟩, ⟨by (with_reducible repeat (first | refine blk_drewN ?_ _ | refine blk_drew ?_ | refine blk_alloc ?_ _)); exact BK326.out⟩, ⟨by (with_reducible repeat (first | refine blk_drewN ?_ _ | refine blk_drew ?_ | refine blk_alloc ?_ _)); exact BK355.out⟩, ⟨by repeat (first | (with_reducible first | exact HB.out | apply below_alloc | apply pw_below_drewN | apply below_drew1 | refine below_set ?_ GE314.out | refine below_set ?_ GE326.out | refine below_set ?_ GE355.out) | exact HB.out)⟩⟩
                            · replace c98 := Bool.eq_false_iff.mpr c98
                              subst c98
                              have H1 : (laws_FnExactMomentsOfNodes.j2 kj49 t341 true t321 t342) = some r := by rw [if_neg (show ¬ (false = true) by decide)] at H; exact H
                              clear H
                              have H := H1
                              clear H1
                              have H' := Aside0.mk H
                              clear H
                              have hnb105 := NB355_314.out
                              have hnc105 := NB314_355.out
                              have hnb106 := NB355_326.out
                              have hnc106 := NB326_355.out
                              have hcz107_0 : w92.cell? ⟨gb355, 0, none⟩ = some (.int .i64 0) := (blk_cell BK355.out 0).trans rfl
                              have hcz107_1 : w92.cell? ⟨gb355, 1, none⟩ = some (.slice none 0 0) := (blk_cell BK355.out 1).trans rfl
                              have hfz107_0 := blk_frozen BK355.out 0
                              have hfz107_1 := blk_frozen BK355.out 1
                              have hnb108 := NB314_326.out
                              have hnc108 := NB326_314.out
                              have hcz109_0 : w92.cell? ⟨gb314, 0, none⟩ = some (.int .i64 t309) := (blk_cell BK314.out 0).trans rfl
                              have hcz109_1 : w92.cell? ⟨gb314, 1, none⟩ = some (.slice Ao21 t310.length co21) := (blk_cell BK314.out 1).trans rfl
                              have hfz109_0 := blk_frozen BK314.out 0
                              have hfz109_1 := blk_frozen BK314.out 1
                              go_wp2_with (first | ((with_reducible refine gate_callee (f := 11) rfl ?_); refine goesM_ (some 109) rfl rfl Try.func11 #[.agg #[.int .i64 t350, .slice Ao96 t351.length co96], .agg #[.int .i64 t309, .slice Ao21 t310.length co21]] rfl ?_; (with_reducible refine (laws_eqMoments.calls kj49 t350 _ _ t351 t309 _ _ t310 false _ ?side1 ?side2 ?side3 ?side4 A97.out).mono ?_); (case side1 => refine (Kd.R_reads' (e := 2) (base := w.heap.size) (ok := fun k_ => ((((True ∧ some k_ ≠ (.slice Ao21 t310.length co21 : Value).ownBlock) ∧ some k_ ≠ (.slice Ao30 t322.length co30 : Value).ownBlock) ∧ some k_ ≠ (.slice Ao89 t344.length co89 : Value).ownBlock) ∧ some k_ ≠ (.slice Ao90 t347.length co90 : Value).ownBlock)) (n := t351.length) (c := co96) ?_).2.2; exact (by (with_reducible repeat (first | apply Kd.R_alloc | apply Kd.R_drewN | apply Kd.R_drew)); exact (Kd.R_mono (Kd.R_far (p := ⟨gb355, 1, none⟩) (Kd.R_far (p := ⟨gb355, 0, none⟩) (Kd.R_types HO353.out BK355.out (by decide)) (fun _ hk => hk.2) (.int .i64 t350)) (fun _ hk => hk.2) (.slice Ao96 t351.length co96)) (fun _ h_ => h_.1)))); (case side2 => exact (Kd.R_reads' HO353.out).2.1); (case side3 => refine (Kd.R_reads' (e := 2) (base := w.heap.size) (ok := fun k_ => (((some k_ ≠ (.slice Ao30 t322.length co30 : Value).ownBlock ∧ some k_ ≠ (.slice Ao89 t344.length co89 : Value).ownBlock) ∧ some k_ ≠ (.slice Ao90 t347.length co90 : Value).ownBlock) ∧ some k_ ≠ (.slice Ao96 t351.length co96 : Value).ownBlock)) (n := t310.length) (c := co21) ?_).2.2; exact (by (with_reducible repeat (first | apply Kd.R_alloc | apply Kd.R_drewN | apply Kd.R_drew)); exact (Kd.R_mono (Kd.R_far (p := ⟨gb355, 1, none⟩) (Kd.R_far (p := ⟨gb355, 0, none⟩) (Kd.R_types HO_315001.out BK355.out (by decide)) (fun _ hk => hk.2) (.int .i64 t350)) (fun _ hk => hk.2) (.slice Ao96 t351.length co96)) (fun _ h_ => h_.1)))); (case side4 => exact (Kd.R_reads' HO_315001.out).2.1); rintro e w110 ⟨rfl, hb⟩; refine ⟨_, rfl, ?_⟩; have n0_ := Aside0.mk (Kd.R_below (by (with_reducible repeat (first | apply Kd.R_alloc | apply Kd.R_drewN | apply Kd.R_drew)); exact (Kd.R_mono (Kd.R_far (p := ⟨gb355, 1, none⟩) (Kd.R_far (p := ⟨gb355, 0, none⟩) (Kd.R_types HO_315001.out BK355.out (by decide)) (fun _ hk => hk.2) (.int .i64 t350)) (fun _ hk => hk.2) (.slice Ao96 t351.length co96)) (fun _ h_ => h_.1))) hb); have n1_ := Aside0.mk (Kd.R_below (by (with_reducible repeat (first | apply Kd.R_alloc | apply Kd.R_drewN | apply Kd.R_drew)); exact (Kd.R_mono (Kd.R_far (p := ⟨gb355, 1, none⟩) (Kd.R_far (p := ⟨gb355, 0, none⟩) (Kd.R_types HO_327001.out BK355.out (by decide)) (fun _ hk => hk.2) (.int .i64 t350)) (fun _ hk => hk.2) (.slice Ao96 t351.length co96)) (fun _ h_ => h_.1))) hb); have n2_ := Aside0.mk (Kd.R_below (by (with_reducible repeat (first | apply Kd.R_alloc | apply Kd.R_drewN | apply Kd.R_drew)); exact (Kd.R_mono (Kd.R_far (p := ⟨gb355, 1, none⟩) (Kd.R_far (p := ⟨gb355, 0, none⟩) (Kd.R_types HO346.out BK355.out (by decide)) (fun _ hk => hk.2) (.int .i64 t350)) (fun _ hk => hk.2) (.slice Ao96 t351.length co96)) (fun _ h_ => h_.1))) hb); have n3_ := Aside0.mk (Kd.R_below (by (with_reducible repeat (first | apply Kd.R_alloc | apply Kd.R_drewN | apply Kd.R_drew)); exact (Kd.R_mono (Kd.R_far (p := ⟨gb355, 1, none⟩) (Kd.R_far (p := ⟨gb355, 0, none⟩) (Kd.R_types HO349.out BK355.out (by decide)) (fun _ hk => hk.2) (.int .i64 t350)) (fun _ hk => hk.2) (.slice Ao96 t351.length co96)) (fun _ h_ => h_.1))) hb); have n4_ := Aside0.mk (Kd.R_below (by (with_reducible repeat (first | apply Kd.R_alloc | apply Kd.R_drewN | apply Kd.R_drew)); exact (Kd.R_mono (Kd.R_far (p := ⟨gb355, 1, none⟩) (Kd.R_far (p := ⟨gb355, 0, none⟩) (Kd.R_types HO353.out BK355.out (by decide)) (fun _ hk => hk.2) (.int .i64 t350)) (fun _ hk => hk.2) (.slice Ao96 t351.length co96)) (fun _ h_ => h_.1))) hb); have n5_ := Aside0.mk (blk_below (g := gb314) (o := .cells #[.int .i64 t309, .slice Ao21 t310.length co21] 24 (0, 0)) (by (with_reducible repeat (first | refine blk_drewN ?_ _ | refine blk_drew ?_ | refine blk_alloc ?_ _)); refine blk_far ?_ NB314_355.out _; (with_reducible repeat (first | refine blk_drewN ?_ _ | refine blk_drew ?_ | refine blk_alloc ?_ _)); refine blk_far ?_ NB314_355.out _; (with_reducible repeat (first | refine blk_drewN ?_ _ | refine blk_drew ?_ | refine blk_alloc ?_ _)); exact BK314.out) hb); have n6_ := Aside0.mk (blk_below (g := gb326) (o := .cells #[.int .i64 t321, .slice Ao30 t322.length co30] 24 (0, 0)) (by (with_reducible repeat (first | refine blk_drewN ?_ _ | refine blk_drew ?_ | refine blk_alloc ?_ _)); refine blk_far ?_ NB326_355.out _; (with_reducible repeat (first | refine blk_drewN ?_ _ | refine blk_drew ?_ | refine blk_alloc ?_ _)); refine blk_far ?_ NB326_355.out _; (with_reducible repeat (first | refine blk_drewN ?_ _ | refine blk_drew ?_ | refine blk_alloc ?_ _)); exact BK326.out) hb); have n7_ := Aside0.mk (blk_below (g := gb355) (o := .cells #[.int .i64 t350, .slice Ao96 t351.length co96] 24 (0, 0)) (by (with_reducible repeat (first | refine blk_drewN ?_ _ | refine blk_drew ?_ | refine blk_alloc ?_ _)); refine blk_put (cs := #[.int .i64 t350, .slice none 0 0]) ?_ 1 _ rfl; (with_reducible repeat (first | refine blk_drewN ?_ _ | refine blk_drew ?_ | refine blk_alloc ?_ _)); refine blk_put (cs := #[.int .i64 0, .slice none 0 0]) ?_ 0 _ rfl; (with_reducible repeat (first | refine blk_drewN ?_ _ | refine blk_drew ?_ | refine blk_alloc ?_ _)); exact BK355.out) hb); have n8_ := Aside0.mk (below_step (by repeat (first | (with_reducible first | exact HB.out | apply below_alloc | apply pw_below_drewN | apply below_drew1 | refine below_set ?_ GE314.out | refine below_set ?_ GE326.out | refine below_set ?_ GE355.out) | exact HB.out)) hb); clear HO_315001; clear HO_327001; clear HO346; clear HO349; clear HO353; clear BK314; clear BK326; clear BK355; clear HB; have HO_315001 := n0_; have HO_327001 := n1_; have HO346 := n2_; have HO349 := n3_; have HO353 := n4_; have BK314 := n5_; have BK326 := n6_; have BK355 := n7_; have HB := n8_; clear n0_ n1_ n2_ n3_ n4_ n5_ n6_ n7_ n8_; (try clear hb); (try clear hb2); (try clear hk); (try clear hi)))
                              go_meet
                              case rel => exact ⟨_, (true), ea_, H', ⟨by have := HJ12.out; have := HJ49.out; first | omega | exact Nat.le_refl _⟩, ⟨by (with_reducible repeat (first | apply Kd.R_alloc | apply Kd.R_drewN | apply Kd.R_drew)); exact Kd.R_mono HO_315001.out (fun _ hk => ⟨hk.1.1.1, hk.2⟩)⟩, ⟨by (with_reducible repeat (first | apply Kd.R_alloc | apply Kd.R_drewN | apply Kd.R_drew)); exact Kd.R_mono HO_327001.out (fun _ hk => ⟨hk.1.1.1, hk.2⟩)⟩, ⟨by (with_reducible repeat (first | apply Kd.R_alloc | apply Kd.R_drewN | apply Kd.R_drew)); exact Kd.R_mono HO353.out (fun _ hk => ⟨hk.1.1.1.2, hk.1.1.2⟩)⟩, ⟨by (with_reducible repeat (first | refine blk_drewN ?_ _ | refine blk_drew ?_ | refine blk_alloc ?_ _)); exact BK314.out⟩, ⟨by (with_reducible repeat (first | refine blk_drewN ?_ _ | refine blk_drew ?_ | refine blk_alloc ?_ _)); exact BK326.out⟩, ⟨by (with_reducible repeat (first | refine blk_drewN ?_ _ | refine blk_drew ?_ | refine blk_alloc ?_ _)); exact BK355.out⟩, ⟨by repeat (first | (with_reducible first | exact HB.out | apply below_alloc | apply pw_below_drewN | apply below_drew1 | refine below_set ?_ GE314.out | refine below_set ?_ GE326.out | refine below_set ?_ GE355.out) | exact HB.out)⟩⟩
                          case rest =>
                            clear HC81
                            try clear c1
                            try clear c2
                            try clear p2
                            try clear c3
                            try clear c4
                            try clear c5
                            try clear c5b0
                            try clear c5b1
                            try clear c6
                            try clear c6b0
                            try clear c6b1
                            try clear c7
                            try clear c8
                            try clear c9
                            try clear c10
                            try clear c11
                            try clear c12
                            try clear c13
                            try clear c14
                            try clear c15
                            try clear c28
                            try clear c32
                            try clear c33
                            try clear c37
                            try clear c41
                            try clear c44
                            try clear c47
                            try clear c57
                            try clear c57b0
                            try clear c59
                            try clear c60
                            try clear c64
                            try clear c68
                            try clear c71
                            try clear c71b0
                            try clear c72
                            try clear c77
                            try clear c77b0
                            try clear c77b1
                            try clear c82
                            try clear c93
                            try clear c94
                            try clear c98
                            try clear c99
                            try clear c100
                            try clear c102
                            try clear c105
                            try clear c106
                            try clear c108
                            try clear hcz101_0
                            try clear hcz101_1
                            try clear hcz103_0
                            try clear hcz103_1
                            try clear hcz107_0
                            try clear hcz107_1
                            try clear hcz109_0
                            try clear hcz109_1
                            try clear hcz20_0
                            try clear hcz20_1
                            try clear hcz29_0
                            try clear hcz29_1
                            try clear hcz34_0
                            try clear hcz34_1
                            try clear hcz35_0
                            try clear hcz35_1
                            try clear hcz38_0
                            try clear hcz38_1
                            try clear hcz39_0
                            try clear hcz39_1
                            try clear hcz61_0
                            try clear hcz61_1
                            try clear hcz62_0
                            try clear hcz62_1
                            try clear hcz65_0
                            try clear hcz65_1
                            try clear hcz66_0
                            try clear hcz66_1
                            try clear hcz73_0
                            try clear hcz73_1
                            try clear hcz75_0
                            try clear hcz75_1
                            try clear hcz83_0
                            try clear hcz83_1
                            try clear hcz85_0
                            try clear hcz85_1
                            try clear hcz95_0
                            try clear hcz95_1
                            try clear hfz101_0
                            try clear hfz101_1
                            try clear hfz103_0
                            try clear hfz103_1
                            try clear hfz107_0
                            try clear hfz107_1
                            try clear hfz109_0
                            try clear hfz109_1
                            try clear hfz20_0
                            try clear hfz20_1
                            try clear hfz29_0
                            try clear hfz29_1
                            try clear hfz34_0
                            try clear hfz34_1
                            try clear hfz35_0
                            try clear hfz35_1
                            try clear hfz38_0
                            try clear hfz38_1
                            try clear hfz39_0
                            try clear hfz39_1
                            try clear hfz61_0
                            try clear hfz61_1
                            try clear hfz62_0
                            try clear hfz62_1
                            try clear hfz65_0
                            try clear hfz65_1
                            try clear hfz66_0
                            try clear hfz66_1
                            try clear hfz73_0
                            try clear hfz73_1
                            try clear hfz75_0
                            try clear hfz75_1
                            try clear hfz83_0
                            try clear hfz83_1
                            try clear hfz85_0
                            try clear hfz85_1
                            try clear hfz95_0
                            try clear hfz95_1
                            try clear p2
                            obtain ⟨kq, x115_80, rfl, HA, HJ80, HO_315001, HO_327001, HO_356001, BK314, BK326, BK355, HB⟩ := hcut
                            have hl327001_80 := (Kd.R_reads' HO_327001.out).1
                            rw [hl327001_80] at HO_327001
                            (try simp only [hl327001_80])
                            (try simp only [hl327001_80] at BK314)
                            (try simp only [hl327001_80] at BK326)
                            (try simp only [hl327001_80] at BK355)
                            (try simp only [hl327001_80] at HO_315001)
                            (try simp only [hl327001_80] at HO_356001)
                            cases kq with
                            | zero => exact absurd HA.out (by simp [laws_FnExactMomentsOfNodes.j2])
                            | succ kj80 =>
                              have H := HA.out
                              clear HA
                              simp only [laws_FnExactMomentsOfNodes.j2] at H
                              by_cases c111 : x115_80 = true
                              · subst c111
                                have H1 : (some false) = some r := by rw [if_pos rfl] at H; exact H
                                clear H
                                have H := H1
                                clear H1
                                obtain rfl := Option.some.inj H
                                go_wp2
                                go_ret
                                exact ⟨by first | rfl | (simp [errW_none, errW_some] <;> rfl) | (simp [*, errW_none, errW_some] <;> rfl), by repeat (first | (with_reducible first | exact HB.out | apply below_alloc | apply pw_below_drewN | apply below_drew1 | refine below_set ?_ GE314.out | refine below_set ?_ GE326.out | refine below_set ?_ GE355.out) | exact HB.out)⟩
                              · replace c111 := Bool.eq_false_iff.mpr c111
                                subst c111
                                have H1 : ((laws_heldMoments.f kj80 t321 t342 1).bind fun t357 => (if t357 < 0 then (some false) else (if t357 = t341 then (some true) else (some false)))) = some r := by rw [if_neg (show ¬ (false = true) by decide)] at H; exact H
                                clear H
                                have H := H1
                                clear H1
                                replace H := Option.bind_eq_some_iff.mp H
                                obtain ⟨t357, A1120, H⟩ := H
                                have A112 := Aside0.mk A1120
                                clear A1120
                                by_cases c113 : t357 < 0
                                · rw [if_pos c113] at H
                                  have c113b0 : decide (t357 < 0) = true := decide_eq_true c113
                                  clear c113
                                  obtain rfl := Option.some.inj H
                                  have hnb114 := NB326_314.out
                                  have hnc114 := NB314_326.out
                                  have hnb115 := NB326_355.out
                                  have hnc115 := NB355_326.out
                                  have hcz116_0 : wc.cell? ⟨gb326, 0, none⟩ = some (.int .i64 t321) := (blk_cell BK326.out 0).trans rfl
                                  have hcz116_1 : wc.cell? ⟨gb326, 1, none⟩ = some (.slice Ao30 t342.length co30) := (blk_cell BK326.out 1).trans rfl
                                  have hfz116_0 := blk_frozen BK326.out 0
                                  have hfz116_1 := blk_frozen BK326.out 1
                                  go_wp2_with (first | ((with_reducible refine gate_callee (f := 15) rfl ?_); refine goesM_ (some 118) rfl rfl Try.func15 #[.agg #[.int .i64 t321, .slice Ao30 t342.length co30], .int .i64 1] rfl ?_; (with_reducible refine (laws_heldMoments.calls kj80 t321 _ _ t342 1 t357 _ ?side1 ?side2 A112.out).mono ?_); (case side1 => exact cs ((Kd.R_reads' HO_327001.out).2.2)); (case side2 => exact (Kd.R_reads' HO_327001.out).2.1); rintro e w117 ⟨rfl, hb⟩; refine ⟨_, rfl, ?_⟩; have n0_ := Aside0.mk (Kd.R_below (rs HO_315001) hb); have n1_ := Aside0.mk (Kd.R_below (rs HO_327001) hb); have n2_ := Aside0.mk (Kd.R_below (rs HO_356001) hb); have n3_ := Aside0.mk (blk_below (g := gb314) (o := .cells #[.int .i64 t309, .slice Ao21 t310.length co21] 24 (0, 0)) (by (with_reducible repeat (first | refine blk_drewN ?_ _ | refine blk_drew ?_ | refine blk_alloc ?_ _)); exact BK314.out) hb); have n4_ := Aside0.mk (blk_below (g := gb326) (o := .cells #[.int .i64 t321, .slice Ao30 t342.length co30] 24 (0, 0)) (by (with_reducible repeat (first | refine blk_drewN ?_ _ | refine blk_drew ?_ | refine blk_alloc ?_ _)); exact BK326.out) hb); have n5_ := Aside0.mk (blk_below (g := gb355) (o := .cells #[.int .i64 t350, .slice Ao96 t351.length co96] 24 (0, 0)) (by (with_reducible repeat (first | refine blk_drewN ?_ _ | refine blk_drew ?_ | refine blk_alloc ?_ _)); exact BK355.out) hb); have n6_ := Aside0.mk (below_step (by repeat (first | (with_reducible first | exact HB.out | apply below_alloc | apply pw_below_drewN | apply below_drew1 | refine below_set ?_ GE314.out | refine below_set ?_ GE326.out | refine below_set ?_ GE355.out) | exact HB.out)) hb); clear HO_315001; clear HO_327001; clear HO_356001; clear BK314; clear BK326; clear BK355; clear HB; have HO_315001 := n0_; have HO_327001 := n1_; have HO_356001 := n2_; have BK314 := n3_; have BK326 := n4_; have BK355 := n5_; have HB := n6_; clear n0_ n1_ n2_ n3_ n4_ n5_ n6_; (try clear hb); (try clear hb2); (try clear hk); (try clear hi)))
                                  go_ret
                                  exact ⟨by first | rfl | (simp [errW_none, errW_some] <;> rfl) | (simp [*, errW_none, errW_some] <;> rfl), by repeat (first | (with_reducible first | exact HB.out | apply below_alloc | apply pw_below_drewN | apply below_drew1 | refine below_set ?_ GE314.out | refine below_set ?_ GE326.out | refine below_set ?_ GE355.out) | exact HB.out)⟩
                                · rw [if_neg c113] at H
                                  have c113b0 : decide (t357 < 0) = false := decide_eq_false c113
                                  clear c113
                                  by_cases c118 : t357 = t341
                                  · rw [if_pos c118] at H
                                    have c118b0 : (t357 == t341) = true := beq_iff_eq.mpr c118
                                    have c118b1 : (t357 != t341) = false := bne_eq_false_iff_eq.mpr c118
                                    clear c118
                                    obtain rfl := Option.some.inj H
                                    have hnb119 := NB326_314.out
                                    have hnc119 := NB314_326.out
                                    have hnb120 := NB326_355.out
                                    have hnc120 := NB355_326.out
                                    have hcz121_0 : wc.cell? ⟨gb326, 0, none⟩ = some (.int .i64 t321) := (blk_cell BK326.out 0).trans rfl
                                    have hcz121_1 : wc.cell? ⟨gb326, 1, none⟩ = some (.slice Ao30 t342.length co30) := (blk_cell BK326.out 1).trans rfl
                                    have hfz121_0 := blk_frozen BK326.out 0
                                    have hfz121_1 := blk_frozen BK326.out 1
                                    go_wp2_with (first | ((with_reducible refine gate_callee (f := 15) rfl ?_); refine goesM_ (some 118) rfl rfl Try.func15 #[.agg #[.int .i64 t321, .slice Ao30 t342.length co30], .int .i64 1] rfl ?_; (with_reducible refine (laws_heldMoments.calls kj80 t321 _ _ t342 1 t357 _ ?side1 ?side2 A112.out).mono ?_); (case side1 => exact cs ((Kd.R_reads' HO_327001.out).2.2)); (case side2 => exact (Kd.R_reads' HO_327001.out).2.1); rintro e w122 ⟨rfl, hb⟩; refine ⟨_, rfl, ?_⟩; have n0_ := Aside0.mk (Kd.R_below (rs HO_315001) hb); have n1_ := Aside0.mk (Kd.R_below (rs HO_327001) hb); have n2_ := Aside0.mk (Kd.R_below (rs HO_356001) hb); have n3_ := Aside0.mk (blk_below (g := gb314) (o := .cells #[.int .i64 t309, .slice Ao21 t310.length co21] 24 (0, 0)) (by (with_reducible repeat (first | refine blk_drewN ?_ _ | refine blk_drew ?_ | refine blk_alloc ?_ _)); exact BK314.out) hb); have n4_ := Aside0.mk (blk_below (g := gb326) (o := .cells #[.int .i64 t321, .slice Ao30 t342.length co30] 24 (0, 0)) (by (with_reducible repeat (first | refine blk_drewN ?_ _ | refine blk_drew ?_ | refine blk_alloc ?_ _)); exact BK326.out) hb); have n5_ := Aside0.mk (blk_below (g := gb355) (o := .cells #[.int .i64 t350, .slice Ao96 t351.length co96] 24 (0, 0)) (by (with_reducible repeat (first | refine blk_drewN ?_ _ | refine blk_drew ?_ | refine blk_alloc ?_ _)); exact BK355.out) hb); have n6_ := Aside0.mk (below_step (by repeat (first | (with_reducible first | exact HB.out | apply below_alloc | apply pw_below_drewN | apply below_drew1 | refine below_set ?_ GE314.out | refine below_set ?_ GE326.out | refine below_set ?_ GE355.out) | exact HB.out)) hb); clear HO_315001; clear HO_327001; clear HO_356001; clear BK314; clear BK326; clear BK355; clear HB; have HO_315001 := n0_; have HO_327001 := n1_; have HO_356001 := n2_; have BK314 := n3_; have BK326 := n4_; have BK355 := n5_; have HB := n6_; clear n0_ n1_ n2_ n3_ n4_ n5_ n6_; (try clear hb); (try clear hb2); (try clear hk); (try clear hi)))
                                    go_ret
                                    exact ⟨by first | rfl | (simp [errW_none, errW_some] <;> rfl) | (simp [*, errW_none, errW_some] <;> rfl), by repeat (first | (with_reducible first | exact HB.out | apply below_alloc | apply pw_below_drewN | apply below_drew1 | refine below_set ?_ GE314.out | refine below_set ?_ GE326.out | refine below_set ?_ GE355.out) | exact HB.out)⟩
                                  · rw [if_neg c118] at H
                                    have c118b0 : (t357 == t341) = false := beq_eq_false_iff_ne.mpr c118
                                    have c118b1 : (t357 != t341) = true := bne_iff_ne.mpr c118
                                    obtain rfl := Option.some.inj H
                                    have hnb123 := NB326_314.out
                                    have hnc123 := NB314_326.out
                                    have hnb124 := NB326_355.out
                                    have hnc124 := NB355_326.out
                                    have hcz125_0 : wc.cell? ⟨gb326, 0, none⟩ = some (.int .i64 t321) := (blk_cell BK326.out 0).trans rfl
                                    have hcz125_1 : wc.cell? ⟨gb326, 1, none⟩ = some (.slice Ao30 t342.length co30) := (blk_cell BK326.out 1).trans rfl
                                    have hfz125_0 := blk_frozen BK326.out 0
                                    have hfz125_1 := blk_frozen BK326.out 1
                                    go_wp2_with (first | ((with_reducible refine gate_callee (f := 15) rfl ?_); refine goesM_ (some 118) rfl rfl Try.func15 #[.agg #[.int .i64 t321, .slice Ao30 t342.length co30], .int .i64 1] rfl ?_; (with_reducible refine (laws_heldMoments.calls kj80 t321 _ _ t342 1 t357 _ ?side1 ?side2 A112.out).mono ?_); (case side1 => exact cs ((Kd.R_reads' HO_327001.out).2.2)); (case side2 => exact (Kd.R_reads' HO_327001.out).2.1); rintro e w126 ⟨rfl, hb⟩; refine ⟨_, rfl, ?_⟩; have n0_ := Aside0.mk (Kd.R_below (rs HO_315001) hb); have n1_ := Aside0.mk (Kd.R_below (rs HO_327001) hb); have n2_ := Aside0.mk (Kd.R_below (rs HO_356001) hb); have n3_ := Aside0.mk (blk_below (g := gb314) (o := .cells #[.int .i64 t309, .slice Ao21 t310.length co21] 24 (0, 0)) (by (with_reducible repeat (first | refine blk_drewN ?_ _ | refine blk_drew ?_ | refine blk_alloc ?_ _)); exact BK314.out) hb); have n4_ := Aside0.mk (blk_below (g := gb326) (o := .cells #[.int .i64 t321, .slice Ao30 t342.length co30] 24 (0, 0)) (by (with_reducible repeat (first | refine blk_drewN ?_ _ | refine blk_drew ?_ | refine blk_alloc ?_ _)); exact BK326.out) hb); have n5_ := Aside0.mk (blk_below (g := gb355) (o := .cells #[.int .i64 t350, .slice Ao96 t351.length co96] 24 (0, 0)) (by (with_reducible repeat (first | refine blk_drewN ?_ _ | refine blk_drew ?_ | refine blk_alloc ?_ _)); exact BK355.out) hb); have n6_ := Aside0.mk (below_step (by repeat (first | (with_reducible first | exact HB.out | apply below_alloc | apply pw_below_drewN | apply below_drew1 | refine below_set ?_ GE314.out | refine below_set ?_ GE326.out | refine below_set ?_ GE355.out) | exact HB.out)) hb); clear HO_315001; clear HO_327001; clear HO_356001; clear BK314; clear BK326; clear BK355; clear HB; have HO_315001 := n0_; have HO_327001 := n1_; have HO_356001 := n2_; have BK314 := n3_; have BK326 := n4_; have BK355 := n5_; have HB := n6_; clear n0_ n1_ n2_ n3_ n4_ n5_ n6_; (try clear hb); (try clear hb2); (try clear hk); (try clear hi)))
                                    go_ret
                                    exact ⟨by first | rfl | (simp [errW_none, errW_some] <;> rfl) | (simp [*, errW_none, errW_some] <;> rfl), by repeat (first | (with_reducible first | exact HB.out | apply below_alloc | apply pw_below_drewN | apply below_drew1 | refine below_set ?_ GE314.out | refine below_set ?_ GE326.out | refine below_set ?_ GE355.out) | exact HB.out)⟩
                        · rw [if_neg c77] at H
                          have c77b0 : (t343 == t341) = false := beq_eq_false_iff_ne.mpr c77
                          have c77b1 : (t343 != t341) = true := bne_iff_ne.mpr c77
                          obtain rfl := Option.some.inj H
                          have hnb127 := NB326_314.out
                          have hnc127 := NB314_326.out
                          have hcz128_0 : wc.cell? ⟨gb326, 0, none⟩ = some (.int .i64 t321) := (blk_cell BK326.out 0).trans rfl
                          have hcz128_1 : wc.cell? ⟨gb326, 1, none⟩ = some (.slice Ao30 t322.length co30) := (blk_cell BK326.out 1).trans rfl
                          have hfz128_0 := blk_frozen BK326.out 0
                          have hfz128_1 := blk_frozen BK326.out 1
                          go_wp2_with (first | ((with_reducible refine gate_callee (f := 14) rfl ?_); refine goesM_ (some 88) rfl rfl Try.func14 #[.agg #[.int .i64 t321, .slice Ao30 t322.length co30], .int .i64 1] rfl ?_; (with_reducible refine (laws_markMoments.calls kj49 t321 (fun k_ => some k_ = (.slice Ao30 t322.length co30 : Value).ownBlock) (.slice Ao30 t322.length co30) t322 1 t341 t342 w _ ?side1 ?side2 A69.out).mono ?_); (case side1 => repeat (first | (with_reducible first | exact HB.out | apply below_alloc | apply pw_below_drewN | apply below_drew1 | refine below_set ?_ GE314.out | refine below_set ?_ GE326.out) | exact HB.out)); (case side2 => exact Kd.R_tight rfl HO_327001.out); rintro e w129 ⟨rfl, hy0, hb, hkp⟩; refine ⟨_, rfl, ?_⟩; have n0_ := Aside0.mk (Kd.R_mono (ok' := fun k_ => some k_ ≠ (.slice Ao30 t322.length co30 : Value).ownBlock) (Kd.R_keptB (HO_315001.out) hkp (fun k_ hk_ hs_ => (hk_) hs_)) (fun k_ hk_ => hk_.1)); have n1_ := Aside0.mk (Kd.R_reok rfl hy0 (fun k_ e_ => HO_327001.out.1 k_ e_)); have n2_ := Aside0.mk (blk_kept (by (with_reducible repeat (first | refine blk_drewN ?_ _ | refine blk_drew ?_ | refine blk_alloc ?_ _)); exact BK314.out) hkp (fun hs_ => (fun e_ => (Kd.R_ne HO_327001.out BK314.out (by decide)) e_) hs_)); have n3_ := Aside0.mk (blk_kept (by (with_reducible repeat (first | refine blk_drewN ?_ _ | refine blk_drew ?_ | refine blk_alloc ?_ _)); exact BK326.out) hkp (fun hs_ => (fun e_ => (Kd.R_ne HO_327001.out BK326.out (by decide)) e_) hs_)); have n4_ := Aside0.mk (hb); clear HO_315001; clear HO_327001; clear BK314; clear BK326; clear HB; have HO_315001 := n0_; have HO_327001 := n1_; have BK314 := n2_; have BK326 := n3_; have HB := n4_; clear n0_ n1_ n2_ n3_ n4_; (try clear hb); (try clear hkp); (try clear hy0); have hcz130_0 : w129.cell? ⟨gb326, 0, none⟩ = some (.int .i64 t321) := (blk_cell BK326.out 0).trans rfl; have hcz130_1 : w129.cell? ⟨gb326, 1, none⟩ = some (.slice Ao30 t322.length co30) := (blk_cell BK326.out 1).trans rfl; have hfz130_0 := blk_frozen BK326.out 0; have hfz130_1 := blk_frozen BK326.out 1) | ((with_reducible refine gate_callee (f := 15) rfl ?_); refine goesL_ (some 91) rfl rfl Try.func15 (by kernel_rfl) rfl #[.agg #[.int .i64 t321, .slice Ao30 t342.length co30], .int .i64 1] rfl (by (try simp only [List.map_toArray, List.map_cons, List.map_nil]); first | done | (rw [show t342.length = t322.length from (Kd.R_reads' HO_327001.out).1.symm] <;> rfl) | rfl | (simp only [List.length_drop, List.length_take]; rfl)) ?_; (with_reducible refine (laws_heldMoments.calls kj49 t321 _ _ t342 1 t343 _ ?side1 ?side2 A70.out).mono ?_); (case side1 => exact cs ((Kd.R_reads' HO_327001.out).2.2)); (case side2 => rw [show t342.length = t322.length from (Kd.R_reads' HO_327001.out).1.symm]; exact (Kd.R_reads' HO_327001.out).2.1); rintro e w131 ⟨rfl, hb⟩; refine ⟨_, rfl, ?_⟩; have n0_ := Aside0.mk (Kd.R_below (rs HO_315001) hb); have n1_ := Aside0.mk (Kd.R_below (rs HO_327001) hb); have n2_ := Aside0.mk (blk_below (g := gb314) (o := .cells #[.int .i64 t309, .slice Ao21 t310.length co21] 24 (0, 0)) (by (with_reducible repeat (first | refine blk_drewN ?_ _ | refine blk_drew ?_ | refine blk_alloc ?_ _)); exact BK314.out) hb); have n3_ := Aside0.mk (blk_below (g := gb326) (o := .cells #[.int .i64 t321, .slice Ao30 t322.length co30] 24 (0, 0)) (by (with_reducible repeat (first | refine blk_drewN ?_ _ | refine blk_drew ?_ | refine blk_alloc ?_ _)); exact BK326.out) hb); have n4_ := Aside0.mk (below_step (by repeat (first | (with_reducible first | exact HB.out | apply below_alloc | apply pw_below_drewN | apply below_drew1 | refine below_set ?_ GE314.out | refine below_set ?_ GE326.out) | exact HB.out)) hb); clear HO_315001; clear HO_327001; clear BK314; clear BK326; clear HB; have HO_315001 := n0_; have HO_327001 := n1_; have BK314 := n2_; have BK326 := n3_; have HB := n4_; clear n0_ n1_ n2_ n3_ n4_; (try clear hb); (try clear hb2); (try clear hk); (try clear hi)))
                          go_ret
                          exact ⟨by first | rfl | (simp [errW_none, errW_some] <;> rfl) | (simp [*, errW_none, errW_some] <;> rfl), by repeat (first | (with_reducible first | exact HB.out | apply below_alloc | apply pw_below_drewN | apply below_drew1 | refine below_set ?_ GE314.out | refine below_set ?_ GE326.out) | exact HB.out)⟩
              · replace c47 := Bool.eq_false_iff.mpr c47
                subst c47
                have H1 : (some false) = some r := by rw [if_neg (show ¬ (false = true) by decide)] at H; exact H
                clear H
                have H := H1
                clear H1
                obtain rfl := Option.some.inj H
                go_wp2_with (first | ((with_reducible refine gate_callee (f := 9) rfl ?_); refine goesM_ (some 59) rfl rfl Try.func9 #[.slice A1 l1.length c1] rfl ?_; (with_reducible refine (laws_toInt64S.calls kj12 _ _ l1 t328 _ ?side1 ?side2 A42.out).mono ?_); (case side1 => exact cs ((Kd.C_below HR1.out HB.out))); (case side2 => exact HC1.out); rintro e w132 ⟨v329, rfl, ho0, hb⟩; refine ⟨_, rfl, ?_⟩; have n0_ := Aside0.mk (Kd.R_elder' (rs HO_11) (Kd.R_base ho0) hb); have n1_ := Aside0.mk (Kd.R_elder' (rs HO_12) (Kd.R_base ho0) hb); have n2_ := Aside0.mk (Kd.R_elder' (rs HO_315001) (Kd.R_base ho0) hb); have n3_ := Aside0.mk (Kd.R_elder' (rs HO_327001) (Kd.R_base ho0) hb); have n4_ := Aside0.mk (Kd.R_lower (Kd.R_new' (Kd.R_new' (Kd.R_new' (Kd.R_new' ho0 (Kd.R_lt (rs HO_11))) (Kd.R_lt (rs HO_12))) (Kd.R_lt (rs HO_315001))) (Kd.R_lt (rs HO_327001))) (below_size (by repeat (first | (with_reducible first | exact HB.out | apply below_alloc | apply pw_below_drewN | apply below_drew1 | refine below_set ?_ GE314.out | refine below_set ?_ GE326.out) | exact HB.out)))); have n5_ := Aside0.mk (blk_below (g := gb314) (o := .cells #[.int .i64 t309, .slice Ao21 t310.length co21] 24 (0, 0)) (by (with_reducible repeat (first | refine blk_drewN ?_ _ | refine blk_drew ?_ | refine blk_alloc ?_ _)); exact BK314.out) hb); have n6_ := Aside0.mk (blk_below (g := gb326) (o := .cells #[.int .i64 t321, .slice Ao30 t322.length co30] 24 (0, 0)) (by (with_reducible repeat (first | refine blk_drewN ?_ _ | refine blk_drew ?_ | refine blk_alloc ?_ _)); exact BK326.out) hb); have n7_ := Aside0.mk (below_step (by repeat (first | (with_reducible first | exact HB.out | apply below_alloc | apply pw_below_drewN | apply below_drew1 | refine below_set ?_ GE314.out | refine below_set ?_ GE326.out) | exact HB.out)) hb); clear HO_11; clear HO_12; clear HO_315001; clear HO_327001; clear BK314; clear BK326; clear HB; have HO_11 := n0_; have HO_12 := n1_; have HO_315001 := n2_; have HO_327001 := n3_; have HO330 := n4_; have BK314 := n5_; have BK326 := n6_; have HB := n7_; clear n0_ n1_ n2_ n3_ n4_ n5_ n6_ n7_; (try clear hb); (try clear hb2); (try clear hk); (try clear hi); (try clear ho0); obtain ⟨Ao133, co133, eo133⟩ := Kd.R_slice HO330.out; subst eo133) | ((with_reducible refine gate_callee (f := 12) rfl ?_); refine goesM_ (some 60) rfl rfl Try.func12 #[.slice Ao24 t315.length co24, .slice Ao133 t328.length co133] rfl ?_; (with_reducible refine (laws_eqInt64S.calls kj12 _ _ t315 _ _ t328 true _ ?side1 ?side2 ?side3 ?side4 A43.out).mono ?_); (case side1 => exact cs ((Kd.R_reads' HO_11.out).2.2)); (case side2 => exact (Kd.R_reads' HO_11.out).2.1); (case side3 => exact cs ((Kd.R_reads' HO330.out).2.2)); (case side4 => exact (Kd.R_reads' HO330.out).2.1); rintro e w' ⟨rfl, ⟨nd, rfl⟩⟩; refine ⟨_, rfl, ?_⟩) | ((with_reducible refine gate_callee (f := 9) rfl ?_); refine goesM_ (some 64) rfl rfl Try.func9 #[.slice A2 l2.length c2] rfl ?_; (with_reducible refine (laws_toInt64S.calls kj12 _ _ l2 t332 _ ?side1 ?side2 A45.out).mono ?_); (case side1 => repeat (first | exact (Kd.C_below HR2.out (by repeat (first | (with_reducible first | exact HB.out | apply below_alloc | apply pw_below_drewN | apply below_drew1 | refine below_set ?_ GE314.out | refine below_set ?_ GE326.out) | exact HB.out))) | (with_reducible refine Kd.C_alloc ?_ _) | (with_reducible refine Kd.C_drewN ?_ _) | (with_reducible refine Kd.C_drew ?_))); (case side2 => exact HC2.out); rintro e w134 ⟨v333, rfl, ho0, hb⟩; refine ⟨_, rfl, ?_⟩; have n0_ := Aside0.mk (Kd.R_elder' (rs HO_11) (Kd.R_base ho0) hb); have n1_ := Aside0.mk (Kd.R_elder' (rs HO_12) (Kd.R_base ho0) hb); have n2_ := Aside0.mk (Kd.R_elder' (rs HO_315001) (Kd.R_base ho0) hb); have n3_ := Aside0.mk (Kd.R_elder' (rs HO_327001) (Kd.R_base ho0) hb); have n4_ := Aside0.mk (Kd.R_elder' (rs HO330) (Kd.R_base ho0) hb); have n5_ := Aside0.mk (Kd.R_lower (Kd.R_new' (Kd.R_new' (Kd.R_new' (Kd.R_new' (Kd.R_new' ho0 (Kd.R_lt (rs HO_11))) (Kd.R_lt (rs HO_12))) (Kd.R_lt (rs HO_315001))) (Kd.R_lt (rs HO_327001))) (Kd.R_lt (rs HO330))) (below_size (by repeat (first | (with_reducible first | exact HB.out | apply below_alloc | apply pw_below_drewN | apply below_drew1 | refine below_set ?_ GE314.out | refine below_set ?_ GE326.out) | exact HB.out)))); have n6_ := Aside0.mk (blk_below (g := gb314) (o := .cells #[.int .i64 t309, .slice Ao21 t310.length co21] 24 (0, 0)) (by (with_reducible repeat (first | refine blk_drewN ?_ _ | refine blk_drew ?_ | refine blk_alloc ?_ _)); exact BK314.out) hb); have n7_ := Aside0.mk (blk_below (g := gb326) (o := .cells #[.int .i64 t321, .slice Ao30 t322.length co30] 24 (0, 0)) (by (with_reducible repeat (first | refine blk_drewN ?_ _ | refine blk_drew ?_ | refine blk_alloc ?_ _)); exact BK326.out) hb); have n8_ := Aside0.mk (below_step (by repeat (first | (with_reducible first | exact HB.out | apply below_alloc | apply pw_below_drewN | apply below_drew1 | refine below_set ?_ GE314.out | refine below_set ?_ GE326.out) | exact HB.out)) hb); clear HO_11; clear HO_12; clear HO_315001; clear HO_327001; clear HO330; clear BK314; clear BK326; clear HB; have HO_11 := n0_; have HO_12 := n1_; have HO_315001 := n2_; have HO_327001 := n3_; have HO330 := n4_; have HO334 := n5_; have BK314 := n6_; have BK326 := n7_; have HB := n8_; clear n0_ n1_ n2_ n3_ n4_ n5_ n6_ n7_ n8_; (try clear hb); (try clear hb2); (try clear hk); (try clear hi); (try clear ho0); obtain ⟨Ao135, co135, eo135⟩ := Kd.R_slice HO334.out; subst eo135) | ((with_reducible refine gate_callee (f := 12) rfl ?_); refine goesM_ (some 65) rfl rfl Try.func12 #[.slice Ao25 t318.length co25, .slice Ao135 t332.length co135] rfl ?_; (with_reducible refine (laws_eqInt64S.calls kj12 _ _ t318 _ _ t332 false _ ?side1 ?side2 ?side3 ?side4 A46.out).mono ?_); (case side1 => exact cs ((Kd.R_reads' HO_12.out).2.2)); (case side2 => exact (Kd.R_reads' HO_12.out).2.1); (case side3 => exact cs ((Kd.R_reads' HO334.out).2.2)); (case side4 => exact (Kd.R_reads' HO334.out).2.1); rintro e w' ⟨rfl, ⟨nd, rfl⟩⟩; refine ⟨_, rfl, ?_⟩))
                go_ret
                exact ⟨by first | rfl | (simp [errW_none, errW_some] <;> rfl) | (simp [*, errW_none, errW_some] <;> rfl), by repeat (first | (with_reducible first | exact HB.out | apply below_alloc | apply pw_below_drewN | apply below_drew1 | refine below_set ?_ GE314.out | refine below_set ?_ GE326.out) | exact HB.out)⟩
            · replace c44 := Bool.eq_false_iff.mpr c44
              subst c44
              have H1 : (some false) = some r := by rw [if_neg (show ¬ (false = true) by decide)] at H; exact H
              clear H
              have H := H1
              clear H1
              obtain rfl := Option.some.inj H
              go_wp2_with (first | ((with_reducible refine gate_callee (f := 9) rfl ?_); refine goesM_ (some 59) rfl rfl Try.func9 #[.slice A1 l1.length c1] rfl ?_; (with_reducible refine (laws_toInt64S.calls kj12 _ _ l1 t328 _ ?side1 ?side2 A42.out).mono ?_); (case side1 => exact cs ((Kd.C_below HR1.out HB.out))); (case side2 => exact HC1.out); rintro e w136 ⟨v329, rfl, ho0, hb⟩; refine ⟨_, rfl, ?_⟩; have n0_ := Aside0.mk (Kd.R_elder' (rs HO_11) (Kd.R_base ho0) hb); have n1_ := Aside0.mk (Kd.R_elder' (rs HO_12) (Kd.R_base ho0) hb); have n2_ := Aside0.mk (Kd.R_elder' (rs HO_315001) (Kd.R_base ho0) hb); have n3_ := Aside0.mk (Kd.R_elder' (rs HO_327001) (Kd.R_base ho0) hb); have n4_ := Aside0.mk (Kd.R_lower (Kd.R_new' (Kd.R_new' (Kd.R_new' (Kd.R_new' ho0 (Kd.R_lt (rs HO_11))) (Kd.R_lt (rs HO_12))) (Kd.R_lt (rs HO_315001))) (Kd.R_lt (rs HO_327001))) (below_size (by repeat (first | (with_reducible first | exact HB.out | apply below_alloc | apply pw_below_drewN | apply below_drew1 | refine below_set ?_ GE314.out | refine below_set ?_ GE326.out) | exact HB.out)))); have n5_ := Aside0.mk (blk_below (g := gb314) (o := .cells #[.int .i64 t309, .slice Ao21 t310.length co21] 24 (0, 0)) (by (with_reducible repeat (first | refine blk_drewN ?_ _ | refine blk_drew ?_ | refine blk_alloc ?_ _)); exact BK314.out) hb); have n6_ := Aside0.mk (blk_below (g := gb326) (o := .cells #[.int .i64 t321, .slice Ao30 t322.length co30] 24 (0, 0)) (by (with_reducible repeat (first | refine blk_drewN ?_ _ | refine blk_drew ?_ | refine blk_alloc ?_ _)); exact BK326.out) hb); have n7_ := Aside0.mk (below_step (by repeat (first | (with_reducible first | exact HB.out | apply below_alloc | apply pw_below_drewN | apply below_drew1 | refine below_set ?_ GE314.out | refine below_set ?_ GE326.out) | exact HB.out)) hb); clear HO_11; clear HO_12; clear HO_315001; clear HO_327001; clear BK314; clear BK326; clear HB; have HO_11 := n0_; have HO_12 := n1_; have HO_315001 := n2_; have HO_327001 := n3_; have HO330 := n4_; have BK314 := n5_; have BK326 := n6_; have HB := n7_; clear n0_ n1_ n2_ n3_ n4_ n5_ n6_ n7_; (try clear hb); (try clear hb2); (try clear hk); (try clear hi); (try clear ho0); obtain ⟨Ao137, co137, eo137⟩ := Kd.R_slice HO330.out; subst eo137) | ((with_reducible refine gate_callee (f := 12) rfl ?_); refine goesM_ (some 60) rfl rfl Try.func12 #[.slice Ao24 t315.length co24, .slice Ao137 t328.length co137] rfl ?_; (with_reducible refine (laws_eqInt64S.calls kj12 _ _ t315 _ _ t328 false _ ?side1 ?side2 ?side3 ?side4 A43.out).mono ?_); (case side1 => exact cs ((Kd.R_reads' HO_11.out).2.2)); (case side2 => exact (Kd.R_reads' HO_11.out).2.1); (case side3 => exact cs ((Kd.R_reads' HO330.out).2.2)); (case side4 => exact (Kd.R_reads' HO330.out).2.1); rintro e w' ⟨rfl, ⟨nd, rfl⟩⟩; refine ⟨_, rfl, ?_⟩))
              go_ret
              exact ⟨by first | rfl | (simp [errW_none, errW_some] <;> rfl) | (simp [*, errW_none, errW_some] <;> rfl), by repeat (first | (with_reducible first | exact HB.out | apply below_alloc | apply pw_below_drewN | apply below_drew1 | refine below_set ?_ GE314.out | refine below_set ?_ GE326.out) | exact HB.out)⟩

/-- THE ONE PURE STATEMENT of laws_FnExactMomentsOfNodes: yours. -/
def laws_FnExactMomentsOfNodes.Pure : Prop := ∀ (a0 : Int) (l1 : List Int) (l2 : List Int) (a3 : Int), (Lit.int .i64 a0).wf = true → l1.length ≤ maxLen → l1.length * 8 ≤ 140737488351232 → (∀ x ∈ l1, (Lit.int .i64 x).wf = true) → l2.length ≤ maxLen → l2.length * 8 ≤ 140737488351232 → (∀ x ∈ l2, (Lit.int .i64 x).wf = true) → (Lit.int .i64 a3).wf = true → ∃ k, laws_FnExactMomentsOfNodes.f k a0 l1 l2 a3 = some true
theorem laws_FnExactMomentsOfNodes.walk (P : laws_FnExactMomentsOfNodes.Pure) (a0 : Int) (a1 : Option Addr) (len1 cap1 : Nat) (z1 : List Int) (a2 : Option Addr) (len2 cap2 : Nat) (z2 : List Int) (a3 : Int) (w : World) (w0 : (Lit.int .i64 a0).wf = true) (w1 : (a1 = none ∧ len1 = 0 ∧ cap1 = 0 ∧ z1 = []) ∨ ∃ x, a1 = some x ∧ len1 ≤ cap1 ∧ cap1 ≤ maxLen ∧ z1.length = cap1 ∧ (∀ i, i < z1.length → w.cell? (x.add i) = some (.int .i64 (z1.getD i 0))) ∧ ∀ n ∈ z1, (Lit.int .i64 n).wf = true) (y1 : len1 * 8 ≤ 140737488351232) (w2 : (a2 = none ∧ len2 = 0 ∧ cap2 = 0 ∧ z2 = []) ∨ ∃ x, a2 = some x ∧ len2 ≤ cap2 ∧ cap2 ≤ maxLen ∧ z2.length = cap2 ∧ (∀ i, i < z2.length → w.cell? (x.add i) = some (.int .i64 (z2.getD i 0))) ∧ ∀ n ∈ z2, (Lit.int .i64 n).wf = true) (y2 : len2 * 8 ≤ 140737488351232) (w3 : (Lit.int .i64 a3).wf = true) :
    Calls Try.prog 3 #[.int .i64 a0, .slice a1 len1 cap1, .slice a2 len2 cap2, .int .i64 a3] w fun e w' => e = .returned (.bool true) ∧ Below w.heap.size w w' := by
  obtain ⟨l1, rfl, hr1, hm1, hw1, hc1⟩ := ReadsInt.ofRowC w1
  obtain ⟨l2, rfl, hr2, hm2, hw2, hc2⟩ := ReadsInt.ofRowC w2
  obtain ⟨k, h⟩ := P a0 l1 l2 a3 w0 hm1 y1 hw1 hm2 y2 hw2 w3
  refine (laws_FnExactMomentsOfNodes.calls k a0 _ _ l1 _ _ l2 a3 true w (Kd.C_of_reads (d := (0 : Int)) (h1 := fun _ => rfl) hr1) hc1 (Kd.C_of_reads (d := (0 : Int)) (h1 := fun _ => rfl) hr2) hc2 h).mono ?_
  rintro e w' ⟨rfl, hd⟩
  exact ⟨rfl, hd⟩

end Go.Proofs.Ytiffnigjblbakaa.H
