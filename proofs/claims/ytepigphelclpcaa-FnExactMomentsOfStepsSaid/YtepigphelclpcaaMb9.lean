/- Joined texts of a claim: the printed functions and what is proved of them. -/
import Derived.Test.YtepigphelclpcaaHx0
import Derived.Test.YtepigphelclpcaaMb4
import Derived.Test.YtepigphelclpcaaMab2
import Derived.Test.YtepigphelclpcaaMb5
import Derived.Test.YtepigphelclpcaaMb8
-- written by wip/drive.py (the session's own program) over the translation; Lean checks it
namespace Go.Proofs.Ytepigphelclpcaa.H
open Go.RowKit Go.Proofs.YtepigphelclpcaaW.PrintWords Go.Proofs.YtepigphelclpcaaW.PrintLast Go.Proofs.YtepigphelclpcaaW.PrintMore
attribute [local go_sem] max2_int min2_int max_two min_two max_three min_three max_four min_four   -- for this text's walks alone
set_option linter.unusedVariables false
set_option linter.unusedSimpArgs false

/-! ### laws_FnExactMomentsOfSteps: function 7 -/
mutual
def laws_FnExactMomentsOfSteps.j0 : Nat → Int → List Int → Int → Int → List Int → Int → Bool → Int → List Int → Int → List Int → Option (Bool)
  | 0, _, _, _, _, _, _, _, _, _, _, _ => none
  | k + 1, x0, x1, x2, x8, x9, x11, x45, x570000, x570001, x579000, x579001 => if x45 = true then (some false) else ((laws_toInt64S.f k x1).bind fun t580 => ((laws_eqInt64S.f k x9 t580).bind fun t583 => (if t583 = true then ((laws_markInt64S.f k x9 1).bind fun bt584 => (if bt584.1 < 0 then (laws_FnExactMomentsOfSteps.j1 k x0 x1 x2 x8 true x570000 x570001 x579000 x579001) else ((laws_eqMoments.f k x579000 x579001 x570000 x570001).bind fun t586 => (if t586 = true then (laws_FnExactMomentsOfSteps.j1 k x0 x1 x2 x8 (x11 != x8) x570000 x570001 x579000 x579001) else (laws_FnExactMomentsOfSteps.j1 k x0 x1 x2 x8 true x570000 x570001 x579000 x579001))))) else (some false))))
def laws_FnExactMomentsOfSteps.j1 : Nat → Int → List Int → Int → Int → Bool → Int → List Int → Int → List Int → Option (Bool)
  | 0, _, _, _, _, _, _, _, _, _ => none
  | k + 1, x0, x1, x2, x8, x66, x570000, x570001, x579000, x579001 => if x66 = true then (some false) else ((laws_markMoments.f k x579000 x579001 1).bind fun bt587 => ((laws_heldMoments.f k x579000 bt587.2 1).bind fun t589 => (if t589 < 0 then (some false) else (if t589 = bt587.1 then ((laws_toInt64S.f k x1).bind fun t590 => ((impl_MomentsOfSteps.f k x0 t590 x2).bind fun bt593 => ((laws_eqMoments.f k bt593.1 bt593.2.1 x570000 x570001).bind fun t599 => (if t599 = true then (laws_FnExactMomentsOfSteps.j2 k bt587.1 (bt593.2.2 != x8) x579000 bt587.2) else (laws_FnExactMomentsOfSteps.j2 k bt587.1 true x579000 bt587.2))))) else (some false)))))
def laws_FnExactMomentsOfSteps.j2 : Nat → Int → Bool → Int → List Int → Option (Bool)
  | 0, _, _, _, _ => none
  | k + 1, x13, x94, x579000, x579001 => if x94 = true then (some false) else ((laws_heldMoments.f k x579000 x579001 1).bind fun t600 => (if t600 < 0 then (some false) else (if t600 = x13 then (some true) else (some false))))
end
def laws_FnExactMomentsOfSteps.f (k : Nat) (a0 : Int) (l1 : List Int) (a2 : Int) : Option (Bool) := if (l1.length : Int) > 1048576 then (some true) else ((laws_toInt64S.f k l1).bind fun t561 => ((spec_MomentsOfSteps.f k a0 t561 a2).bind fun bt564 => ((laws_toInt64S.f k l1).bind fun t570 => ((impl_MomentsOfSteps.f k a0 t570 a2).bind fun bt573 => ((laws_eqMoments.f k bt573.1 bt573.2.1 bt564.1 bt564.2.1).bind fun t579 => (if t579 = true then (laws_FnExactMomentsOfSteps.j0 k a0 l1 a2 bt564.2.2 t570 bt573.2.2 (bt573.2.2 != bt564.2.2) bt564.1 bt564.2.1 bt573.1 bt573.2.1) else (laws_FnExactMomentsOfSteps.j0 k a0 l1 a2 bt564.2.2 t570 bt573.2.2 true bt564.1 bt564.2.1 bt573.1 bt573.2.1)))))))
theorem laws_FnExactMomentsOfSteps.mono_l : ∀ k, (∀ y0 y1 y2 y3 y4 y5 y6 y7 y8 y9 y10, LeO (laws_FnExactMomentsOfSteps.j0 k y0 y1 y2 y3 y4 y5 y6 y7 y8 y9 y10) (laws_FnExactMomentsOfSteps.j0 (k + 1) y0 y1 y2 y3 y4 y5 y6 y7 y8 y9 y10)) ∧ (∀ y0 y1 y2 y3 y4 y5 y6 y7 y8, LeO (laws_FnExactMomentsOfSteps.j1 k y0 y1 y2 y3 y4 y5 y6 y7 y8) (laws_FnExactMomentsOfSteps.j1 (k + 1) y0 y1 y2 y3 y4 y5 y6 y7 y8)) ∧ (∀ y0 y1 y2 y3, LeO (laws_FnExactMomentsOfSteps.j2 k y0 y1 y2 y3) (laws_FnExactMomentsOfSteps.j2 (k + 1) y0 y1 y2 y3))
  | 0 => ⟨fun _ _ _ _ _ _ _ _ _ _ _ r h => by simp [laws_FnExactMomentsOfSteps.j0] at h, fun _ _ _ _ _ _ _ _ _ r h => by simp [laws_FnExactMomentsOfSteps.j1] at h, fun _ _ _ _ r h => by simp [laws_FnExactMomentsOfSteps.j2] at h⟩
  | k + 1 => by
    obtain ⟨ih0, ih1, ih2⟩ := laws_FnExactMomentsOfSteps.mono_l k
    refine ⟨?_, ?_, ?_⟩
    · intro y0 y1 y2 y3 y4 y5 y6 y7 y8 y9 y10
      unfold laws_FnExactMomentsOfSteps.j0
      repeat' first
      | (with_reducible exact ih0 _ _ _ _ _ _ _ _ _ _ _)
      | (with_reducible exact ih1 _ _ _ _ _ _ _ _ _)
      | (with_reducible exact ih2 _ _ _ _)
      | (with_reducible exact impl_MomentsOfSteps.mono _ _ _ _)
      | (with_reducible exact laws_eqInt64S.mono _ _ _)
      | (with_reducible exact laws_eqMoments.mono _ _ _ _ _)
      | (with_reducible exact laws_heldMoments.mono _ _ _ _)
      | (with_reducible exact laws_markInt64S.mono _ _ _)
      | (with_reducible exact laws_markMoments.mono _ _ _ _)
      | (with_reducible exact laws_toInt64S.mono _ _)
      | (with_reducible exact spec_MomentsOfSteps.mono _ _ _ _)
      | (with_reducible exact LeO.refl _)
      | (with_reducible exact LeO.none _)
      | (with_reducible refine LeO.ite ?_ ?_)
      | (with_reducible refine LeO.bind ?_ (fun _ => ?_))
      | exact ih0 _ _ _ _ _ _ _ _ _ _ _
      | exact ih1 _ _ _ _ _ _ _ _ _
      | exact ih2 _ _ _ _
      | exact impl_MomentsOfSteps.mono _ _ _ _
      | exact laws_eqInt64S.mono _ _ _
      | exact laws_eqMoments.mono _ _ _ _ _
      | exact laws_heldMoments.mono _ _ _ _
      | exact laws_markInt64S.mono _ _ _
      | exact laws_markMoments.mono _ _ _ _
      | exact laws_toInt64S.mono _ _
      | exact spec_MomentsOfSteps.mono _ _ _ _
      | exact LeO.none _
      | refine LeO.ite ?_ ?_
      | refine LeO.bind ?_ (fun _ => ?_)
    · intro y0 y1 y2 y3 y4 y5 y6 y7 y8
      unfold laws_FnExactMomentsOfSteps.j1
      repeat' first
      | (with_reducible exact ih0 _ _ _ _ _ _ _ _ _ _ _)
      | (with_reducible exact ih1 _ _ _ _ _ _ _ _ _)
      | (with_reducible exact ih2 _ _ _ _)
      | (with_reducible exact impl_MomentsOfSteps.mono _ _ _ _)
      | (with_reducible exact laws_eqInt64S.mono _ _ _)
      | (with_reducible exact laws_eqMoments.mono _ _ _ _ _)
      | (with_reducible exact laws_heldMoments.mono _ _ _ _)
      | (with_reducible exact laws_markInt64S.mono _ _ _)
      | (with_reducible exact laws_markMoments.mono _ _ _ _)
      | (with_reducible exact laws_toInt64S.mono _ _)
      | (with_reducible exact spec_MomentsOfSteps.mono _ _ _ _)
      | (with_reducible exact LeO.refl _)
      | (with_reducible exact LeO.none _)
      | (with_reducible refine LeO.ite ?_ ?_)
      | (with_reducible refine LeO.bind ?_ (fun _ => ?_))
      | exact ih0 _ _ _ _ _ _ _ _ _ _ _
      | exact ih1 _ _ _ _ _ _ _ _ _
      | exact ih2 _ _ _ _
      | exact impl_MomentsOfSteps.mono _ _ _ _
      | exact laws_eqInt64S.mono _ _ _
      | exact laws_eqMoments.mono _ _ _ _ _
      | exact laws_heldMoments.mono _ _ _ _
      | exact laws_markInt64S.mono _ _ _
      | exact laws_markMoments.mono _ _ _ _
      | exact laws_toInt64S.mono _ _
      | exact spec_MomentsOfSteps.mono _ _ _ _
      | exact LeO.none _
      | refine LeO.ite ?_ ?_
      | refine LeO.bind ?_ (fun _ => ?_)
    · intro y0 y1 y2 y3
      unfold laws_FnExactMomentsOfSteps.j2
      repeat' first
      | (with_reducible exact ih0 _ _ _ _ _ _ _ _ _ _ _)
      | (with_reducible exact ih1 _ _ _ _ _ _ _ _ _)
      | (with_reducible exact ih2 _ _ _ _)
      | (with_reducible exact impl_MomentsOfSteps.mono _ _ _ _)
      | (with_reducible exact laws_eqInt64S.mono _ _ _)
      | (with_reducible exact laws_eqMoments.mono _ _ _ _ _)
      | (with_reducible exact laws_heldMoments.mono _ _ _ _)
      | (with_reducible exact laws_markInt64S.mono _ _ _)
      | (with_reducible exact laws_markMoments.mono _ _ _ _)
      | (with_reducible exact laws_toInt64S.mono _ _)
      | (with_reducible exact spec_MomentsOfSteps.mono _ _ _ _)
      | (with_reducible exact LeO.refl _)
      | (with_reducible exact LeO.none _)
      | (with_reducible refine LeO.ite ?_ ?_)
      | (with_reducible refine LeO.bind ?_ (fun _ => ?_))
      | exact ih0 _ _ _ _ _ _ _ _ _ _ _
      | exact ih1 _ _ _ _ _ _ _ _ _
      | exact ih2 _ _ _ _
      | exact impl_MomentsOfSteps.mono _ _ _ _
      | exact laws_eqInt64S.mono _ _ _
      | exact laws_eqMoments.mono _ _ _ _ _
      | exact laws_heldMoments.mono _ _ _ _
      | exact laws_markInt64S.mono _ _ _
      | exact laws_markMoments.mono _ _ _ _
      | exact laws_toInt64S.mono _ _
      | exact spec_MomentsOfSteps.mono _ _ _ _
      | exact LeO.none _
      | refine LeO.ite ?_ ?_
      | refine LeO.bind ?_ (fun _ => ?_)
theorem laws_FnExactMomentsOfSteps.mono : ∀ a0 a1 a2 k, LeO (laws_FnExactMomentsOfSteps.f k a0 a1 a2) (laws_FnExactMomentsOfSteps.f (k + 1) a0 a1 a2) := by
  intro a0 a1 a2 k
  obtain ⟨ih0, ih1, ih2⟩ := laws_FnExactMomentsOfSteps.mono_l k
  unfold laws_FnExactMomentsOfSteps.f
  repeat' first
      | (with_reducible exact ih0 _ _ _ _ _ _ _ _ _ _ _)
      | (with_reducible exact ih1 _ _ _ _ _ _ _ _ _)
      | (with_reducible exact ih2 _ _ _ _)
      | (with_reducible exact impl_MomentsOfSteps.mono _ _ _ _)
      | (with_reducible exact laws_eqInt64S.mono _ _ _)
      | (with_reducible exact laws_eqMoments.mono _ _ _ _ _)
      | (with_reducible exact laws_heldMoments.mono _ _ _ _)
      | (with_reducible exact laws_markInt64S.mono _ _ _)
      | (with_reducible exact laws_markMoments.mono _ _ _ _)
      | (with_reducible exact laws_toInt64S.mono _ _)
      | (with_reducible exact spec_MomentsOfSteps.mono _ _ _ _)
      | (with_reducible exact LeO.refl _)
      | (with_reducible exact LeO.none _)
      | (with_reducible refine LeO.ite ?_ ?_)
      | (with_reducible refine LeO.bind ?_ (fun _ => ?_))
      | exact ih0 _ _ _ _ _ _ _ _ _ _ _
      | exact ih1 _ _ _ _ _ _ _ _ _
      | exact ih2 _ _ _ _
      | exact impl_MomentsOfSteps.mono _ _ _ _
      | exact laws_eqInt64S.mono _ _ _
      | exact laws_eqMoments.mono _ _ _ _ _
      | exact laws_heldMoments.mono _ _ _ _
      | exact laws_markInt64S.mono _ _ _
      | exact laws_markMoments.mono _ _ _ _
      | exact laws_toInt64S.mono _ _
      | exact spec_MomentsOfSteps.mono _ _ _ _
      | exact LeO.none _
      | refine LeO.ite ?_ ?_
      | refine LeO.bind ?_ (fun _ => ?_)
set_option maxHeartbeats 8000000 in
set_option maxRecDepth 100000 in
theorem laws_FnExactMomentsOfSteps.calls (k : Nat) (a0 : Int) (A1 : Option Addr) (c1 : Nat) (l1 : List Int) (a2 : Int) (r : Bool) (w : World) (hr1 : Kd.C (Kd.int .i64) w A1 l1.length l1) (hc1 : l1.length ≤ c1) (h : laws_FnExactMomentsOfSteps.f k a0 l1 a2 = some r) :
    Calls Try.prog 7 #[.int .i64 a0, .slice A1 l1.length c1, .int .i64 a2] w fun e w' => e = .returned (.bool r) ∧ Below w.heap.size w w' := by
  have hu47 := Try.underlying47
  have HR1 := Aside0.mk hr1
  have HC1 := Aside0.mk hc1
  clear hr1 hc1
  have HB := Aside0.mk (Below.refl w.heap.size w)
  have H : (if (l1.length : Int) > 1048576 then (some true) else ((laws_toInt64S.f k l1).bind fun t561 => ((spec_MomentsOfSteps.f k a0 t561 a2).bind fun bt564 => ((laws_toInt64S.f k l1).bind fun t570 => ((impl_MomentsOfSteps.f k a0 t570 a2).bind fun bt573 => ((laws_eqMoments.f k bt573.1 bt573.2.1 bt564.1 bt564.2.1).bind fun t579 => (if t579 = true then (laws_FnExactMomentsOfSteps.j0 k a0 l1 a2 bt564.2.2 t570 bt573.2.2 (bt573.2.2 != bt564.2.2) bt564.1 bt564.2.1 bt573.1 bt573.2.1) else (laws_FnExactMomentsOfSteps.j0 k a0 l1 a2 bt564.2.2 t570 bt573.2.2 true bt564.1 bt564.2.1 bt573.1 bt573.2.1)))))))) = some r := h
  clear h
  by_cases c4 : (l1.length : Int) > 1048576
  · rw [if_pos c4] at H
    have c4b0 : decide (1048576 < (l1.length : Int)) = true := decide_eq_true c4
    have c4b1 : decide (1048576 < l1.length) = true := decide_eq_true (by omega)
    clear c4
    obtain rfl := Option.some.inj H
    go_enter Try.func7, Try.ntmps7
    go_wp2
    go_ret
    exact ⟨by first | rfl | (simp [errW_none, errW_some] <;> rfl) | (simp [*, errW_none, errW_some] <;> rfl), by repeat (first | (with_reducible first | exact HB.out | apply below_alloc | apply pw_below_drewN | apply below_drew1) | exact HB.out)⟩
  · rw [if_neg c4] at H
    have c4b0 : decide (1048576 < (l1.length : Int)) = false := decide_eq_false c4
    have c4b1 : decide (1048576 < l1.length) = false := decide_eq_false (by omega)
    clear c4
    replace H := Option.bind_eq_some_iff.mp H
    obtain ⟨t561, A50, H⟩ := H
    have A5 := Aside0.mk A50
    clear A50
    replace H := Option.bind_eq_some_iff.mp H
    obtain ⟨⟨t564, t565, t568⟩, A60, H⟩ := H
    have A6 := Aside0.mk A60
    clear A60
    replace H := Option.bind_eq_some_iff.mp H
    obtain ⟨t570, A70, H⟩ := H
    have A7 := Aside0.mk A70
    clear A70
    replace H := Option.bind_eq_some_iff.mp H
    obtain ⟨⟨t573, t574, t577⟩, A80, H⟩ := H
    have A8 := Aside0.mk A80
    clear A80
    have HC9 := Aside0.mk H
    clear H
    go_enter Try.func7, Try.ntmps7
    go_upto_region 6 with (first | ((with_reducible refine gate_callee (f := 10) rfl ?_); refine goesM_ (some 23) rfl rfl Try.func10 #[.slice A1 l1.length c1] rfl ?_; (with_reducible refine (laws_toInt64S.calls k _ _ l1 t561 _ ?side1 ?side2 A5.out).mono ?_); (case side1 => exact cs (HR1.out)); (case side2 => exact HC1.out); rintro e w10 ⟨v562, rfl, ho0, hb⟩; refine ⟨_, rfl, ?_⟩; have n0_ := Aside0.mk (Kd.R_lower ho0 (below_size (bs HB))); have n1_ := Aside0.mk (below_step (bs HB) hb); clear HB; have HO563 := n0_; have HB := n1_; clear n0_ n1_; (try clear hb); (try clear hb2); (try clear hk); (try clear hi); (try clear ho0); obtain ⟨Ao11, co11, eo11⟩ := Kd.R_slice HO563.out; subst eo11) | ((with_reducible refine gate_callee (f := 36) rfl ?_); refine goesM_ (some 25) rfl rfl Try.func36 #[.int .i64 a0, .slice Ao11 t561.length co11, .int .i64 a2] rfl ?_; (with_reducible refine (spec_MomentsOfSteps.calls k a0 _ _ t561 a2 t564 t565 t568 _ ?side1 ?side2 A6.out).mono ?_); (case side1 => exact cs ((Kd.R_reads' HO563.out).2.2)); (case side2 => exact (Kd.R_reads' HO563.out).2.1); rintro e w12 ⟨v566, rfl, ho0, hb⟩; refine ⟨_, rfl, ?_⟩; have n0_ := Aside0.mk (Kd.R_elder' (rs HO563) (Kd.R_base ho0) hb); have n1_ := Aside0.mk (Kd.R_lower (Kd.R_new' ho0 (Kd.R_lt (rs HO563))) (below_size (bs HB))); have n2_ := Aside0.mk (below_step (bs HB) hb); clear HO563; clear HB; have HO563 := n0_; have HO567 := n1_; have HB := n2_; clear n0_ n1_ n2_; (try clear hb); (try clear hb2); (try clear hk); (try clear hi); (try clear ho0)) | ((with_reducible refine gate_dst (N := 7) rfl ?_); refine box_event ?hg (N := 7) ?hd (cs := #[.int .i64 0, .slice none 0 0]) (t := 47) ?hr ?_; (case hd => rfl); (case hg => rfl); (case hr => first | (go_simp; done) | (go_simp; rfl)); intro gb569 hg w13 hbox hb; have n0_ := Aside0.mk (Kd.R_below (rs HO563) hb); have n1_ := Aside0.mk (Kd.R_below (rs HO567) hb); have n2_ := Aside0.mk (below_step (bs HB) hb); have n3_ := Aside0.mk (hbox); have n4_ := Aside0.mk ((by rw [hg]; exact (below_size (bs HB)) : w.heap.size ≤ gb569)); have n5_ := Aside0.mk ((by rw [hg]; exact (below_size (bs HB)) : w.heap.size ≤ gb569)); clear HO563; clear HO567; clear HB; have HO563 := n0_; have HO567 := n1_; have HB := n2_; have BK569 := n3_; have GW569 := n4_; have GE569 := n5_; clear n0_ n1_ n2_ n3_ n4_ n5_; clear hb hbox hg; have hcz14_0 : w13.cell? ⟨gb569, 0, none⟩ = some (.int .i64 0) := (blk_cell BK569.out 0).trans rfl; have hcz14_1 : w13.cell? ⟨gb569, 1, none⟩ = some (.slice none 0 0) := (blk_cell BK569.out 1).trans rfl; have hfz14_0 := blk_frozen BK569.out 0; have hfz14_1 := blk_frozen BK569.out 1; obtain ⟨Ao15, co15, eo15⟩ := Kd.R_slice HO567.out; subst eo15) | ((with_reducible refine gate_callee (f := 10) rfl ?_); refine goesM_ (some 29) rfl rfl Try.func10 #[.slice A1 l1.length c1] rfl ?_; (with_reducible refine (laws_toInt64S.calls k _ _ l1 t570 _ ?side1 ?side2 A7.out).mono ?_); (case side1 => exact Kd.C_below HR1.out (by repeat (first | (with_reducible first | exact HB.out | apply below_alloc | apply pw_below_drewN | apply below_drew1 | refine below_set ?_ GE569.out) | exact HB.out))); (case side2 => exact HC1.out); rintro e w16 ⟨v571, rfl, ho0, hb⟩; refine ⟨_, rfl, ?_⟩; have n0_ := Aside0.mk (Kd.R_elder' (by (with_reducible repeat (first | apply Kd.R_alloc | apply Kd.R_drewN | apply Kd.R_drew)); exact (Kd.R_mono (Kd.R_far (p := ⟨gb569, 1, none⟩) (Kd.R_far (p := ⟨gb569, 0, none⟩) (Kd.R_types HO563.out BK569.out (by decide)) (fun _ hk => hk.2) (.int .i64 t564)) (fun _ hk => hk.2) (.slice Ao15 t565.length co15)) (fun _ h_ => h_.1))) (Kd.R_base ho0) hb); have n1_ := Aside0.mk (Kd.R_elder' (by (with_reducible repeat (first | apply Kd.R_alloc | apply Kd.R_drewN | apply Kd.R_drew)); exact (Kd.R_mono (Kd.R_far (p := ⟨gb569, 1, none⟩) (Kd.R_far (p := ⟨gb569, 0, none⟩) (Kd.R_types HO567.out BK569.out (by decide)) (fun _ hk => hk.2) (.int .i64 t564)) (fun _ hk => hk.2) (.slice Ao15 t565.length co15)) (fun _ h_ => h_.1))) (Kd.R_base ho0) hb); have n2_ := Aside0.mk (Kd.R_lower (Kd.R_new' (Kd.R_new' ho0 (Kd.R_lt (by (with_reducible repeat (first | apply Kd.R_alloc | apply Kd.R_drewN | apply Kd.R_drew)); exact (Kd.R_mono (Kd.R_far (p := ⟨gb569, 1, none⟩) (Kd.R_far (p := ⟨gb569, 0, none⟩) (Kd.R_types HO563.out BK569.out (by decide)) (fun _ hk => hk.2) (.int .i64 t564)) (fun _ hk => hk.2) (.slice Ao15 t565.length co15)) (fun _ h_ => h_.1))))) (Kd.R_lt (by (with_reducible repeat (first | apply Kd.R_alloc | apply Kd.R_drewN | apply Kd.R_drew)); exact (Kd.R_mono (Kd.R_far (p := ⟨gb569, 1, none⟩) (Kd.R_far (p := ⟨gb569, 0, none⟩) (Kd.R_types HO567.out BK569.out (by decide)) (fun _ hk => hk.2) (.int .i64 t564)) (fun _ hk => hk.2) (.slice Ao15 t565.length co15)) (fun _ h_ => h_.1))))) (below_size (by repeat (first | (with_reducible first | exact HB.out | apply below_alloc | apply pw_below_drewN | apply below_drew1 | refine below_set ?_ GE569.out) | exact HB.out)))); have n3_ := Aside0.mk (blk_below (g := gb569) (o := .cells #[.int .i64 t564, .slice Ao15 t565.length co15] 47 (0, 0)) (by (with_reducible repeat (first | refine blk_drewN ?_ _ | refine blk_drew ?_ | refine blk_alloc ?_ _)); refine blk_put (cs := #[.int .i64 t564, .slice none 0 0]) ?_ 1 _ rfl; (with_reducible repeat (first | refine blk_drewN ?_ _ | refine blk_drew ?_ | refine blk_alloc ?_ _)); refine blk_put (cs := #[.int .i64 0, .slice none 0 0]) ?_ 0 _ rfl; (with_reducible repeat (first | refine blk_drewN ?_ _ | refine blk_drew ?_ | refine blk_alloc ?_ _)); exact BK569.out) hb); have n4_ := Aside0.mk (below_step (by repeat (first | (with_reducible first | exact HB.out | apply below_alloc | apply pw_below_drewN | apply below_drew1 | refine below_set ?_ GE569.out) | exact HB.out)) hb); clear HO563; clear HO567; clear BK569; clear HB; have HO563 := n0_; have HO567 := n1_; have HO572 := n2_; have BK569 := n3_; have HB := n4_; clear n0_ n1_ n2_ n3_ n4_; (try clear hb); (try clear hb2); (try clear hk); (try clear hi); (try clear ho0); obtain ⟨Ao17, co17, eo17⟩ := Kd.R_slice HO572.out; subst eo17) | ((with_reducible refine gate_callee (f := 37) rfl ?_); refine goesM_ (some 34) rfl rfl Try.func37 #[.int .i64 a0, .slice Ao17 t570.length co17, .int .i64 a2] rfl ?_; (with_reducible refine (impl_MomentsOfSteps.calls k a0 _ _ t570 a2 t573 t574 t577 _ ?side1 ?side2 A8.out).mono ?_); (case side1 => exact cs ((Kd.R_reads' HO572.out).2.2)); (case side2 => exact (Kd.R_reads' HO572.out).2.1); rintro e w18 ⟨v575, rfl, ho0, hb⟩; refine ⟨_, rfl, ?_⟩; have n0_ := Aside0.mk (Kd.R_elder' (rs HO563) (Kd.R_base ho0) hb); have n1_ := Aside0.mk (Kd.R_elder' (rs HO567) (Kd.R_base ho0) hb); have n2_ := Aside0.mk (Kd.R_elder' (rs HO572) (Kd.R_base ho0) hb); have n3_ := Aside0.mk (Kd.R_lower (Kd.R_new' (Kd.R_new' (Kd.R_new' ho0 (Kd.R_lt (rs HO563))) (Kd.R_lt (rs HO567))) (Kd.R_lt (rs HO572))) (below_size (by repeat (first | (with_reducible first | exact HB.out | apply below_alloc | apply pw_below_drewN | apply below_drew1 | refine below_set ?_ GE569.out) | exact HB.out)))); have n4_ := Aside0.mk (blk_below (g := gb569) (o := .cells #[.int .i64 t564, .slice Ao15 t565.length co15] 47 (0, 0)) (by (with_reducible repeat (first | refine blk_drewN ?_ _ | refine blk_drew ?_ | refine blk_alloc ?_ _)); exact BK569.out) hb); have n5_ := Aside0.mk (below_step (by repeat (first | (with_reducible first | exact HB.out | apply below_alloc | apply pw_below_drewN | apply below_drew1 | refine below_set ?_ GE569.out) | exact HB.out)) hb); clear HO563; clear HO567; clear HO572; clear BK569; clear HB; have HO563 := n0_; have HO567 := n1_; have HO572 := n2_; have HO576 := n3_; have BK569 := n4_; have HB := n5_; clear n0_ n1_ n2_ n3_ n4_ n5_; (try clear hb); (try clear hb2); (try clear hk); (try clear hi); (try clear ho0)) | ((with_reducible refine gate_dst (N := 10) rfl ?_); refine box_event ?hg (N := 10) ?hd (cs := #[.int .i64 0, .slice none 0 0]) (t := 47) ?hr ?_; (case hd => rfl); (case hg => rfl); (case hr => first | (go_simp; done) | (go_simp; rfl)); intro gb578 hg w19 hbox hb; have n0_ := Aside0.mk (Kd.R_below (rs HO563) hb); have n1_ := Aside0.mk (Kd.R_below (rs HO567) hb); have n2_ := Aside0.mk (Kd.R_below (rs HO572) hb); have n3_ := Aside0.mk (Kd.R_below (rs HO576) hb); have n4_ := Aside0.mk (blk_below (g := gb569) (o := .cells #[.int .i64 t564, .slice Ao15 t565.length co15] 47 (0, 0)) (by (with_reducible repeat (first | refine blk_drewN ?_ _ | refine blk_drew ?_ | refine blk_alloc ?_ _)); exact BK569.out) hb); have n5_ := Aside0.mk (below_step (by repeat (first | (with_reducible first | exact HB.out | apply below_alloc | apply pw_below_drewN | apply below_drew1 | refine below_set ?_ GE569.out) | exact HB.out)) hb); have n6_ := Aside0.mk (hbox); have n7_ := Aside0.mk ((by rw [hg]; exact (below_size (by repeat (first | (with_reducible first | exact HB.out | apply below_alloc | apply pw_below_drewN | apply below_drew1 | refine below_set ?_ GE569.out) | exact HB.out))) : w.heap.size ≤ gb578)); have n8_ := Aside0.mk ((by rw [hg]; exact (below_size (by repeat (first | (with_reducible first | exact HB.out | apply below_alloc | apply pw_below_drewN | apply below_drew1 | refine below_set ?_ GE569.out) | exact HB.out))) : w.heap.size ≤ gb578)); have n9_ := Aside0.mk ((by rw [hg]; exact Nat.ne_of_lt (blk_lt (g := gb569) (o := .cells #[.int .i64 t564, .slice Ao15 t565.length co15] 47 (0, 0)) (by (with_reducible repeat (first | refine blk_drewN ?_ _ | refine blk_drew ?_ | refine blk_alloc ?_ _)); exact BK569.out)) : gb569 ≠ gb578)); have n10_ := Aside0.mk ((by rw [hg]; exact Nat.ne_of_gt (blk_lt (g := gb569) (o := .cells #[.int .i64 t564, .slice Ao15 t565.length co15] 47 (0, 0)) (by (with_reducible repeat (first | refine blk_drewN ?_ _ | refine blk_drew ?_ | refine blk_alloc ?_ _)); exact BK569.out)) : gb578 ≠ gb569)); clear HO563; clear HO567; clear HO572; clear HO576; clear BK569; clear HB; have HO563 := n0_; have HO567 := n1_; have HO572 := n2_; have HO576 := n3_; have BK569 := n4_; have HB := n5_; have BK578 := n6_; have GW578 := n7_; have GE578 := n8_; have NB569_578 := n9_; have NB578_569 := n10_; clear n0_ n1_ n2_ n3_ n4_ n5_ n6_ n7_ n8_ n9_ n10_; clear hb hbox hg; have hnb20 := NB578_569.out; have hnc20 := NB569_578.out; have hcz21_0 : w19.cell? ⟨gb578, 0, none⟩ = some (.int .i64 0) := (blk_cell BK578.out 0).trans rfl; have hcz21_1 : w19.cell? ⟨gb578, 1, none⟩ = some (.slice none 0 0) := (blk_cell BK578.out 1).trans rfl; have hfz21_0 := blk_frozen BK578.out 0; have hfz21_1 := blk_frozen BK578.out 1; obtain ⟨Ao22, co22, eo22⟩ := Kd.R_slice HO576.out; subst eo22))
    (try simp only [Act.put, List.setIfInBounds_toArray, List.set_cons_zero, List.set_cons_succ])
    go_cut [45] (fun v45 wc => ∃ (kq : Nat) (x45_8 : Bool), v45 = .bool x45_8 ∧ Aside0 (laws_FnExactMomentsOfSteps.j0 kq a0 l1 a2 t568 t570 t577 x45_8 t564 t565 t573 t574 = some r) ∧ Aside0 (kq ≤ k) ∧ Aside0 (Kd.R (Kd.int .i64) 2 wc w.heap.size (fun k_ => some k_ ≠ ((.slice Ao15 t565.length co15) : Value).ownBlock ∧ some k_ ≠ ((.slice Ao22 t574.length co22) : Value).ownBlock) (.slice Ao17 t570.length co17) t570) ∧ Aside0 (Kd.R (Kd.int .i64) 2 wc w.heap.size (fun k_ => some k_ ≠ ((.slice Ao17 t570.length co17) : Value).ownBlock ∧ some k_ ≠ ((.slice Ao22 t574.length co22) : Value).ownBlock) (.slice Ao15 t565.length co15) t565) ∧ Aside0 (Kd.R (Kd.int .i64) 2 wc w.heap.size (fun k_ => some k_ ≠ ((.slice Ao17 t570.length co17) : Value).ownBlock ∧ some k_ ≠ ((.slice Ao15 t565.length co15) : Value).ownBlock) (.slice Ao22 t574.length co22) t574) ∧ Aside0 (wc.heap[gb569]? = some (.cells #[.int .i64 t564, (.slice Ao15 t565.length co15)] 47 (0, 0))) ∧ Aside0 (wc.heap[gb578]? = some (.cells #[.int .i64 t573, (.slice Ao22 t574.length co22)] 47 (0, 0))) ∧ Aside0 (Below w.heap.size w wc))
    case first =>
      have H := HC9.out
      clear HC9
      replace H := Option.bind_eq_some_iff.mp H
      obtain ⟨t579, A230, H⟩ := H
      have A23 := Aside0.mk A230
      clear A230
      by_cases c24 : t579 = true
      · subst c24
        have H1 : (laws_FnExactMomentsOfSteps.j0 k a0 l1 a2 t568 t570 t577 (t577 != t568) t564 t565 t573 t574) = some r := by rw [if_pos rfl] at H; exact H
        clear H
        have H := H1
        clear H1
        have H' := Aside0.mk H
        clear H
        have hnb25 := NB578_569.out
        have hnc25 := NB569_578.out
        have hcz26_0 : w19.cell? ⟨gb578, 0, none⟩ = some (.int .i64 0) := (blk_cell BK578.out 0).trans rfl
        have hcz26_1 : w19.cell? ⟨gb578, 1, none⟩ = some (.slice none 0 0) := (blk_cell BK578.out 1).trans rfl
        have hfz26_0 := blk_frozen BK578.out 0
        have hfz26_1 := blk_frozen BK578.out 1
        have hcz27_0 : w19.cell? ⟨gb569, 0, none⟩ = some (.int .i64 t564) := (blk_cell BK569.out 0).trans rfl
        have hcz27_1 : w19.cell? ⟨gb569, 1, none⟩ = some (.slice Ao15 t565.length co15) := (blk_cell BK569.out 1).trans rfl
        have hfz27_0 := blk_frozen BK569.out 0
        have hfz27_1 := blk_frozen BK569.out 1
        go_wp2_with (first | ((with_reducible refine gate_callee (f := 31) rfl ?_); refine goesM_ (some 39) rfl rfl Try.func31 #[.agg #[.int .i64 t573, .slice Ao22 t574.length co22], .agg #[.int .i64 t564, .slice Ao15 t565.length co15]] rfl ?_; (with_reducible refine (laws_eqMoments.calls k t573 _ _ t574 t564 _ _ t565 true _ ?side1 ?side2 ?side3 ?side4 A23.out).mono ?_); (case side1 => refine (Kd.R_reads' (e := 2) (base := w.heap.size) (ok := fun k_ => (((True ∧ some k_ ≠ (.slice Ao11 t561.length co11 : Value).ownBlock) ∧ some k_ ≠ (.slice Ao15 t565.length co15 : Value).ownBlock) ∧ some k_ ≠ (.slice Ao17 t570.length co17 : Value).ownBlock)) (n := t574.length) (c := co22) ?_).2.2; exact (by (with_reducible repeat (first | apply Kd.R_alloc | apply Kd.R_drewN | apply Kd.R_drew)); exact (Kd.R_mono (Kd.R_far (p := ⟨gb578, 1, none⟩) (Kd.R_far (p := ⟨gb578, 0, none⟩) (Kd.R_types HO576.out BK578.out (by decide)) (fun _ hk => hk.2) (.int .i64 t573)) (fun _ hk => hk.2) (.slice Ao22 t574.length co22)) (fun _ h_ => h_.1)))); (case side2 => exact (Kd.R_reads' HO576.out).2.1); (case side3 => refine (Kd.R_reads' (e := 2) (base := w.heap.size) (ok := fun k_ => (((True ∧ some k_ ≠ (.slice Ao11 t561.length co11 : Value).ownBlock) ∧ some k_ ≠ (.slice Ao17 t570.length co17 : Value).ownBlock) ∧ some k_ ≠ (.slice Ao22 t574.length co22 : Value).ownBlock)) (n := t565.length) (c := co15) ?_).2.2; exact (by (with_reducible repeat (first | apply Kd.R_alloc | apply Kd.R_drewN | apply Kd.R_drew)); exact (Kd.R_mono (Kd.R_far (p := ⟨gb578, 1, none⟩) (Kd.R_far (p := ⟨gb578, 0, none⟩) (Kd.R_types HO567.out BK578.out (by decide)) (fun _ hk => hk.2) (.int .i64 t573)) (fun _ hk => hk.2) (.slice Ao22 t574.length co22)) (fun _ h_ => h_.1)))); (case side4 => exact (Kd.R_reads' HO567.out).2.1); rintro e w28 ⟨rfl, hb⟩; refine ⟨_, rfl, ?_⟩; have n0_ := Aside0.mk (Kd.R_below (by (with_reducible repeat (first | apply Kd.R_alloc | apply Kd.R_drewN | apply Kd.R_drew)); exact (Kd.R_mono (Kd.R_far (p := ⟨gb578, 1, none⟩) (Kd.R_far (p := ⟨gb578, 0, none⟩) (Kd.R_types HO563.out BK578.out (by decide)) (fun _ hk => hk.2) (.int .i64 t573)) (fun _ hk => hk.2) (.slice Ao22 t574.length co22)) (fun _ h_ => h_.1))) hb); have n1_ := Aside0.mk (Kd.R_below (by (with_reducible repeat (first | apply Kd.R_alloc | apply Kd.R_drewN | apply Kd.R_drew)); exact (Kd.R_mono (Kd.R_far (p := ⟨gb578, 1, none⟩) (Kd.R_far (p := ⟨gb578, 0, none⟩) (Kd.R_types HO567.out BK578.out (by decide)) (fun _ hk => hk.2) (.int .i64 t573)) (fun _ hk => hk.2) (.slice Ao22 t574.length co22)) (fun _ h_ => h_.1))) hb); have n2_ := Aside0.mk (Kd.R_below (by (with_reducible repeat (first | apply Kd.R_alloc | apply Kd.R_drewN | apply Kd.R_drew)); exact (Kd.R_mono (Kd.R_far (p := ⟨gb578, 1, none⟩) (Kd.R_far (p := ⟨gb578, 0, none⟩) (Kd.R_types HO572.out BK578.out (by decide)) (fun _ hk => hk.2) (.int .i64 t573)) (fun _ hk => hk.2) (.slice Ao22 t574.length co22)) (fun _ h_ => h_.1))) hb); have n3_ := Aside0.mk (Kd.R_below (by (with_reducible repeat (first | apply Kd.R_alloc | apply Kd.R_drewN | apply Kd.R_drew)); exact (Kd.R_mono (Kd.R_far (p := ⟨gb578, 1, none⟩) (Kd.R_far (p := ⟨gb578, 0, none⟩) (Kd.R_types HO576.out BK578.out (by decide)) (fun _ hk => hk.2) (.int .i64 t573)) (fun _ hk => hk.2) (.slice Ao22 t574.length co22)) (fun _ h_ => h_.1))) hb); have n4_ := Aside0.mk (blk_below (g := gb569) (o := .cells #[.int .i64 t564, .slice Ao15 t565.length co15] 47 (0, 0)) (by (with_reducible repeat (first | refine blk_drewN ?_ _ | refine blk_drew ?_ | refine blk_alloc ?_ _)); refine blk_far ?_ NB569_578.out _; (with_reducible repeat (first | refine blk_drewN ?_ _ | refine blk_drew ?_ | refine blk_alloc ?_ _)); refine blk_far ?_ NB569_578.out _; (with_reducible repeat (first | refine blk_drewN ?_ _ | refine blk_drew ?_ | refine blk_alloc ?_ _)); exact BK569.out) hb); have n5_ := Aside0.mk (blk_below (g := gb578) (o := .cells #[.int .i64 t573, .slice Ao22 t574.length co22] 47 (0, 0)) (by (with_reducible repeat (first | refine blk_drewN ?_ _ | refine blk_drew ?_ | refine blk_alloc ?_ _)); refine blk_put (cs := #[.int .i64 t573, .slice none 0 0]) ?_ 1 _ rfl; (with_reducible repeat (first | refine blk_drewN ?_ _ | refine blk_drew ?_ | refine blk_alloc ?_ _)); refine blk_put (cs := #[.int .i64 0, .slice none 0 0]) ?_ 0 _ rfl; (with_reducible repeat (first | refine blk_drewN ?_ _ | refine blk_drew ?_ | refine blk_alloc ?_ _)); exact BK578.out) hb); have n6_ := Aside0.mk (below_step (by repeat (first | (with_reducible first | exact HB.out | apply below_alloc | apply pw_below_drewN | apply below_drew1 | refine below_set ?_ GE569.out | refine below_set ?_ GE578.out) | exact HB.out)) hb); clear HO563; clear HO567; clear HO572; clear HO576; clear BK569; clear BK578; clear HB; have HO563 := n0_; have HO567 := n1_; have HO572 := n2_; have HO576 := n3_; have BK569 := n4_; have BK578 := n5_; have HB := n6_; clear n0_ n1_ n2_ n3_ n4_ n5_ n6_; (try clear hb); (try clear hb2); (try clear hk); (try clear hi)))
        go_meet
        case rel => exact ⟨_, ((t577 != t568)), ea_, H', ⟨by first | omega | exact Nat.le_refl _⟩, ⟨by (with_reducible repeat (first | apply Kd.R_alloc | apply Kd.R_drewN | apply Kd.R_drew)); exact Kd.R_mono HO572.out (fun _ hk => ⟨hk.1.2, hk.2⟩)⟩, ⟨by (with_reducible repeat (first | apply Kd.R_alloc | apply Kd.R_drewN | apply Kd.R_drew)); exact Kd.R_mono HO567.out (fun _ hk => ⟨hk.1.2, hk.2⟩)⟩, ⟨by (with_reducible repeat (first | apply Kd.R_alloc | apply Kd.R_drewN | apply Kd.R_drew)); exact Kd.R_mono HO576.out (fun _ hk => ⟨hk.2, hk.1.2⟩)⟩, ⟨by (with_reducible repeat (first | refine blk_drewN ?_ _ | refine blk_drew ?_ | refine blk_alloc ?_ _)); exact BK569.out⟩, ⟨by (with_reducible repeat (first | refine blk_drewN ?_ _ | refine blk_drew ?_ | refine blk_alloc ?_ _)); exact BK578.out⟩, ⟨by repeat (first | (with_reducible first | exact HB.out | apply below_alloc | apply pw_below_drewN | apply below_drew1 | refine below_set ?_ GE569.out | refine below_set ?_ GE578.out) | exact HB.out)⟩⟩
      · replace c24 := Bool.eq_false_iff.mpr c24
        subst c24
        have H1 : (laws_FnExactMomentsOfSteps.j0 k a0 l1 a2 t568 t570 t577 true t564 t565 t573 t574) = some r := by rw [if_neg (show ¬ (false = true) by decide)] at H; exact H
        clear H
        have H := H1
        clear H1
        have H' := Aside0.mk H
        clear H
        have hnb29 := NB578_569.out
        have hnc29 := NB569_578.out
        have hcz30_0 : w19.cell? ⟨gb578, 0, none⟩ = some (.int .i64 0) := (blk_cell BK578.out 0).trans rfl
        have hcz30_1 : w19.cell? ⟨gb578, 1, none⟩ = some (.slice none 0 0) := (blk_cell BK578.out 1).trans rfl
        have hfz30_0 := blk_frozen BK578.out 0
        have hfz30_1 := blk_frozen BK578.out 1
        have hcz31_0 : w19.cell? ⟨gb569, 0, none⟩ = some (.int .i64 t564) := (blk_cell BK569.out 0).trans rfl
        have hcz31_1 : w19.cell? ⟨gb569, 1, none⟩ = some (.slice Ao15 t565.length co15) := (blk_cell BK569.out 1).trans rfl
        have hfz31_0 := blk_frozen BK569.out 0
        have hfz31_1 := blk_frozen BK569.out 1
        go_wp2_with (first | ((with_reducible refine gate_callee (f := 31) rfl ?_); refine goesM_ (some 39) rfl rfl Try.func31 #[.agg #[.int .i64 t573, .slice Ao22 t574.length co22], .agg #[.int .i64 t564, .slice Ao15 t565.length co15]] rfl ?_; (with_reducible refine (laws_eqMoments.calls k t573 _ _ t574 t564 _ _ t565 false _ ?side1 ?side2 ?side3 ?side4 A23.out).mono ?_); (case side1 => refine (Kd.R_reads' (e := 2) (base := w.heap.size) (ok := fun k_ => (((True ∧ some k_ ≠ (.slice Ao11 t561.length co11 : Value).ownBlock) ∧ some k_ ≠ (.slice Ao15 t565.length co15 : Value).ownBlock) ∧ some k_ ≠ (.slice Ao17 t570.length co17 : Value).ownBlock)) (n := t574.length) (c := co22) ?_).2.2; exact (by (with_reducible repeat (first | apply Kd.R_alloc | apply Kd.R_drewN | apply Kd.R_drew)); exact (Kd.R_mono (Kd.R_far (p := ⟨gb578, 1, none⟩) (Kd.R_far (p := ⟨gb578, 0, none⟩) (Kd.R_types HO576.out BK578.out (by decide)) (fun _ hk => hk.2) (.int .i64 t573)) (fun _ hk => hk.2) (.slice Ao22 t574.length co22)) (fun _ h_ => h_.1)))); (case side2 => exact (Kd.R_reads' HO576.out).2.1); (case side3 => refine (Kd.R_reads' (e := 2) (base := w.heap.size) (ok := fun k_ => (((True ∧ some k_ ≠ (.slice Ao11 t561.length co11 : Value).ownBlock) ∧ some k_ ≠ (.slice Ao17 t570.length co17 : Value).ownBlock) ∧ some k_ ≠ (.slice Ao22 t574.length co22 : Value).ownBlock)) (n := t565.length) (c := co15) ?_).2.2; exact (by (with_reducible repeat (first | apply Kd.R_alloc | apply Kd.R_drewN | apply Kd.R_drew)); exact (Kd.R_mono (Kd.R_far (p := ⟨gb578, 1, none⟩) (Kd.R_far (p := ⟨gb578, 0, none⟩) (Kd.R_types HO567.out BK578.out (by decide)) (fun _ hk => hk.2) (.int .i64 t573)) (fun _ hk => hk.2) (.slice Ao22 t574.length co22)) (fun _ h_ => h_.1)))); (case side4 => exact (Kd.R_reads' HO567.out).2.1); rintro e w32 ⟨rfl, hb⟩; refine ⟨_, rfl, ?_⟩; have n0_ := Aside0.mk (Kd.R_below (by (with_reducible repeat (first | apply Kd.R_alloc | apply Kd.R_drewN | apply Kd.R_drew)); exact (Kd.R_mono (Kd.R_far (p := ⟨gb578, 1, none⟩) (Kd.R_far (p := ⟨gb578, 0, none⟩) (Kd.R_types HO563.out BK578.out (by decide)) (fun _ hk => hk.2) (.int .i64 t573)) (fun _ hk => hk.2) (.slice Ao22 t574.length co22)) (fun _ h_ => h_.1))) hb); have n1_ := Aside0.mk (Kd.R_below (by (with_reducible repeat (first | apply Kd.R_alloc | apply Kd.R_drewN | apply Kd.R_drew)); exact (Kd.R_mono (Kd.R_far (p := ⟨gb578, 1, none⟩) (Kd.R_far (p := ⟨gb578, 0, none⟩) (Kd.R_types HO567.out BK578.out (by decide)) (fun _ hk => hk.2) (.int .i64 t573)) (fun _ hk => hk.2) (.slice Ao22 t574.length co22)) (fun _ h_ => h_.1))) hb); have n2_ := Aside0.mk (Kd.R_below (by (with_reducible repeat (first | apply Kd.R_alloc | apply Kd.R_drewN | apply Kd.R_drew)); exact (Kd.R_mono (Kd.R_far (p := ⟨gb578, 1, none⟩) (Kd.R_far (p := ⟨gb578, 0, none⟩) (Kd.R_types HO572.out BK578.out (by decide)) (fun _ hk => hk.2) (.int .i64 t573)) (fun _ hk => hk.2) (.slice Ao22 t574.length co22)) (fun _ h_ => h_.1))) hb); have n3_ := Aside0.mk (Kd.R_below (by (with_reducible repeat (first | apply Kd.R_alloc | apply Kd.R_drewN | apply Kd.R_drew)); exact (Kd.R_mono (Kd.R_far (p := ⟨gb578, 1, none⟩) (Kd.R_far (p := ⟨gb578, 0, none⟩) (Kd.R_types HO576.out BK578.out (by decide)) (fun _ hk => hk.2) (.int .i64 t573)) (fun _ hk => hk.2) (.slice Ao22 t574.length co22)) (fun _ h_ => h_.1))) hb); have n4_ := Aside0.mk (blk_below (g := gb569) (o := .cells #[.int .i64 t564, .slice Ao15 t565.length co15] 47 (0, 0)) (by (with_reducible repeat (first | refine blk_drewN ?_ _ | refine blk_drew ?_ | refine blk_alloc ?_ _)); refine blk_far ?_ NB569_578.out _; (with_reducible repeat (first | refine blk_drewN ?_ _ | refine blk_drew ?_ | refine blk_alloc ?_ _)); refine blk_far ?_ NB569_578.out _; (with_reducible repeat (first | refine blk_drewN ?_ _ | refine blk_drew ?_ | refine blk_alloc ?_ _)); exact BK569.out) hb); have n5_ := Aside0.mk (blk_below (g := gb578) (o := .cells #[.int .i64 t573, .slice Ao22 t574.length co22] 47 (0, 0)) (by (with_reducible repeat (first | refine blk_drewN ?_ _ | refine blk_drew ?_ | refine blk_alloc ?_ _)); refine blk_put (cs := #[.int .i64 t573, .slice none 0 0]) ?_ 1 _ rfl; (with_reducible repeat (first | refine blk_drewN ?_ _ | refine blk_drew ?_ | refine blk_alloc ?_ _)); refine blk_put (cs := #[.int .i64 0, .slice none 0 0]) ?_ 0 _ rfl; (with_reducible repeat (first | refine blk_drewN ?_ _ | refine blk_drew ?_ | refine blk_alloc ?_ _)); exact BK578.out) hb); have n6_ := Aside0.mk (below_step (by repeat (first | (with_reducible first | exact HB.out | apply below_alloc | apply pw_below_drewN | apply below_drew1 | refine below_set ?_ GE569.out | refine below_set ?_ GE578.out) | exact HB.out)) hb); clear HO563; clear HO567; clear HO572; clear HO576; clear BK569; clear BK578; clear HB; have HO563 := n0_; have HO567 := n1_; have HO572 := n2_; have HO576 := n3_; have BK569 := n4_; have BK578 := n5_; have HB := n6_; clear n0_ n1_ n2_ n3_ n4_ n5_ n6_; (try clear hb); (try clear hb2); (try clear hk); (try clear hi)))
        go_meet
        case rel => exact ⟨_, (true), ea_, H', ⟨by first | omega | exact Nat.le_refl _⟩, ⟨by (with_reducible repeat (first | apply Kd.R_alloc | apply Kd.R_drewN | apply Kd.R_drew)); exact Kd.R_mono HO572.out (fun _ hk => ⟨hk.1.2, hk.2⟩)⟩, ⟨by (with_reducible repeat (first | apply Kd.R_alloc | apply Kd.R_drewN | apply Kd.R_drew)); exact Kd.R_mono HO567.out (fun _ hk => ⟨hk.1.2, hk.2⟩)⟩, ⟨by (with_reducible repeat (first | apply Kd.R_alloc | apply Kd.R_drewN | apply Kd.R_drew)); exact Kd.R_mono HO576.out (fun _ hk => ⟨hk.2, hk.1.2⟩)⟩, ⟨by (with_reducible repeat (first | refine blk_drewN ?_ _ | refine blk_drew ?_ | refine blk_alloc ?_ _)); exact BK569.out⟩, ⟨by (with_reducible repeat (first | refine blk_drewN ?_ _ | refine blk_drew ?_ | refine blk_alloc ?_ _)); exact BK578.out⟩, ⟨by repeat (first | (with_reducible first | exact HB.out | apply below_alloc | apply pw_below_drewN | apply below_drew1 | refine below_set ?_ GE569.out | refine below_set ?_ GE578.out) | exact HB.out)⟩⟩
    case rest =>
      clear HC9
      try clear c1
      try clear c2
      try clear p2
      try clear c3
      try clear c4
      try clear c4b0
      try clear c4b1
      try clear c7
      try clear c10
      try clear c20
      try clear c24
      try clear c25
      try clear c29
      try clear c31
      try clear hcz14_0
      try clear hcz14_1
      try clear hcz21_0
      try clear hcz21_1
      try clear hcz26_0
      try clear hcz26_1
      try clear hcz27_0
      try clear hcz27_1
      try clear hcz30_0
      try clear hcz30_1
      try clear hcz31_0
      try clear hcz31_1
      try clear hfz14_0
      try clear hfz14_1
      try clear hfz21_0
      try clear hfz21_1
      try clear hfz26_0
      try clear hfz26_1
      try clear hfz27_0
      try clear hfz27_1
      try clear hfz30_0
      try clear hfz30_1
      try clear hfz31_0
      try clear hfz31_1
      obtain ⟨kq, x45_8, rfl, HA, HJ8, HO_9, HO_570001, HO_579001, BK569, BK578, HB⟩ := hcut
      cases kq with
      | zero => exact absurd HA.out (by simp [laws_FnExactMomentsOfSteps.j0])
      | succ kj8 =>
        have H := HA.out
        clear HA
        simp only [laws_FnExactMomentsOfSteps.j0] at H
        by_cases c33 : x45_8 = true
        · subst c33
          have H1 : (some false) = some r := by rw [if_pos rfl] at H; exact H
          clear H
          have H := H1
          clear H1
          obtain rfl := Option.some.inj H
          go_wp2
          go_ret
          exact ⟨by first | rfl | (simp [errW_none, errW_some] <;> rfl) | (simp [*, errW_none, errW_some] <;> rfl), by repeat (first | (with_reducible first | exact HB.out | apply below_alloc | apply pw_below_drewN | apply below_drew1 | refine below_set ?_ GE569.out | refine below_set ?_ GE578.out) | exact HB.out)⟩
        · replace c33 := Bool.eq_false_iff.mpr c33
          subst c33
          have H1 : ((laws_toInt64S.f kj8 l1).bind fun t580 => ((laws_eqInt64S.f kj8 t570 t580).bind fun t583 => (if t583 = true then ((laws_markInt64S.f kj8 t570 1).bind fun bt584 => (if bt584.1 < 0 then (laws_FnExactMomentsOfSteps.j1 kj8 a0 l1 a2 t568 true t564 t565 t573 t574) else ((laws_eqMoments.f kj8 t573 t574 t564 t565).bind fun t586 => (if t586 = true then (laws_FnExactMomentsOfSteps.j1 kj8 a0 l1 a2 t568 (t577 != t568) t564 t565 t573 t574) else (laws_FnExactMomentsOfSteps.j1 kj8 a0 l1 a2 t568 true t564 t565 t573 t574))))) else (some false)))) = some r := by rw [if_neg (show ¬ (false = true) by decide)] at H; exact H
          clear H
          have H := H1
          clear H1
          replace H := Option.bind_eq_some_iff.mp H
          obtain ⟨t580, A340, H⟩ := H
          have A34 := Aside0.mk A340
          clear A340
          replace H := Option.bind_eq_some_iff.mp H
          obtain ⟨t583, A350, H⟩ := H
          have A35 := Aside0.mk A350
          clear A350
          by_cases c36 : t583 = true
          · subst c36
            have H1 : ((laws_markInt64S.f kj8 t570 1).bind fun bt584 => (if bt584.1 < 0 then (laws_FnExactMomentsOfSteps.j1 kj8 a0 l1 a2 t568 true t564 t565 t573 t574) else ((laws_eqMoments.f kj8 t573 t574 t564 t565).bind fun t586 => (if t586 = true then (laws_FnExactMomentsOfSteps.j1 kj8 a0 l1 a2 t568 (t577 != t568) t564 t565 t573 t574) else (laws_FnExactMomentsOfSteps.j1 kj8 a0 l1 a2 t568 true t564 t565 t573 t574))))) = some r := by rw [if_pos rfl] at H; exact H
            clear H
            have H := H1
            clear H1
            replace H := Option.bind_eq_some_iff.mp H
            obtain ⟨⟨t584, t585⟩, A370, H⟩ := H
            have A37 := Aside0.mk A370
            clear A370
            have HC38 := Aside0.mk H
            clear H
            go_upto_region 12 with (first | ((with_reducible refine gate_callee (f := 10) rfl ?_); refine goesM_ (some 48) rfl rfl Try.func10 #[.slice A1 l1.length c1] rfl ?_; (with_reducible refine (laws_toInt64S.calls kj8 _ _ l1 t580 _ ?side1 ?side2 A34.out).mono ?_); (case side1 => exact cs ((Kd.C_below HR1.out HB.out))); (case side2 => exact HC1.out); rintro e w39 ⟨v581, rfl, ho0, hb⟩; refine ⟨_, rfl, ?_⟩; have n0_ := Aside0.mk (Kd.R_elder' (rs HO_9) (Kd.R_base ho0) hb); have n1_ := Aside0.mk (Kd.R_elder' (rs HO_570001) (Kd.R_base ho0) hb); have n2_ := Aside0.mk (Kd.R_elder' (rs HO_579001) (Kd.R_base ho0) hb); have n3_ := Aside0.mk (Kd.R_lower (Kd.R_new' (Kd.R_new' (Kd.R_new' ho0 (Kd.R_lt (rs HO_9))) (Kd.R_lt (rs HO_570001))) (Kd.R_lt (rs HO_579001))) (below_size (by repeat (first | (with_reducible first | exact HB.out | apply below_alloc | apply pw_below_drewN | apply below_drew1 | refine below_set ?_ GE569.out | refine below_set ?_ GE578.out) | exact HB.out)))); have n4_ := Aside0.mk (blk_below (g := gb569) (o := .cells #[.int .i64 t564, .slice Ao15 t565.length co15] 47 (0, 0)) (by (with_reducible repeat (first | refine blk_drewN ?_ _ | refine blk_drew ?_ | refine blk_alloc ?_ _)); exact BK569.out) hb); have n5_ := Aside0.mk (blk_below (g := gb578) (o := .cells #[.int .i64 t573, .slice Ao22 t574.length co22] 47 (0, 0)) (by (with_reducible repeat (first | refine blk_drewN ?_ _ | refine blk_drew ?_ | refine blk_alloc ?_ _)); exact BK578.out) hb); have n6_ := Aside0.mk (below_step (by repeat (first | (with_reducible first | exact HB.out | apply below_alloc | apply pw_below_drewN | apply below_drew1 | refine below_set ?_ GE569.out | refine below_set ?_ GE578.out) | exact HB.out)) hb); clear HO_9; clear HO_570001; clear HO_579001; clear BK569; clear BK578; clear HB; have HO_9 := n0_; have HO_570001 := n1_; have HO_579001 := n2_; have HO582 := n3_; have BK569 := n4_; have BK578 := n5_; have HB := n6_; clear n0_ n1_ n2_ n3_ n4_ n5_ n6_; (try clear hb); (try clear hb2); (try clear hk); (try clear hi); (try clear ho0); obtain ⟨Ao40, co40, eo40⟩ := Kd.R_slice HO582.out; subst eo40) | ((with_reducible refine gate_callee (f := 13) rfl ?_); refine goesM_ (some 49) rfl rfl Try.func13 #[.slice Ao17 t570.length co17, .slice Ao40 t580.length co40] rfl ?_; (with_reducible refine (laws_eqInt64S.calls kj8 _ _ t570 _ _ t580 true _ ?side1 ?side2 ?side3 ?side4 A35.out).mono ?_); (case side1 => exact cs ((Kd.R_reads' HO_9.out).2.2)); (case side2 => exact (Kd.R_reads' HO_9.out).2.1); (case side3 => exact cs ((Kd.R_reads' HO582.out).2.2)); (case side4 => exact (Kd.R_reads' HO582.out).2.1); rintro e w' ⟨rfl, ⟨nd, rfl⟩⟩; refine ⟨_, rfl, ?_⟩) | ((with_reducible refine gate_callee (f := 14) rfl ?_); refine goesM_ (some 53) rfl rfl Try.func14 #[.slice Ao17 t570.length co17, .int .i64 1] rfl ?_; (with_reducible refine (laws_markInt64S.calls kj8 (fun k_ => some k_ = (.slice Ao17 t570.length co17 : Value).ownBlock) (.slice Ao17 t570.length co17) t570 1 t584 t585 w _ ?side1 ?side2 A37.out).mono ?_); (case side1 => repeat (first | (with_reducible first | exact HB.out | apply below_alloc | apply pw_below_drewN | apply below_drew1 | refine below_set ?_ GE569.out | refine below_set ?_ GE578.out) | exact HB.out)); (case side2 => exact Kd.R_tight rfl HO_9.out); rintro e w41 ⟨rfl, hy0, hb, hkp⟩; refine ⟨_, rfl, ?_⟩; have n0_ := Aside0.mk (Kd.R_reok rfl hy0 (fun k_ e_ => HO_9.out.1 k_ e_)); have n1_ := Aside0.mk (Kd.R_mono (ok' := fun k_ => some k_ ≠ (.slice Ao17 t570.length co17 : Value).ownBlock ∧ some k_ ≠ (.slice Ao22 t574.length co22 : Value).ownBlock ∧ some k_ ≠ (.slice Ao40 t580.length co40 : Value).ownBlock) (Kd.R_keptB (HO_570001.out) hkp (fun k_ hk_ hs_ => (hk_.1.1) hs_)) (fun k_ hk_ => ⟨hk_.1.1.1, hk_.1.1.2, hk_.1.2⟩)); have n2_ := Aside0.mk (Kd.R_mono (ok' := fun k_ => some k_ ≠ (.slice Ao17 t570.length co17 : Value).ownBlock ∧ some k_ ≠ (.slice Ao15 t565.length co15 : Value).ownBlock ∧ some k_ ≠ (.slice Ao40 t580.length co40 : Value).ownBlock) (Kd.R_keptB (HO_579001.out) hkp (fun k_ hk_ hs_ => (hk_.1.1) hs_)) (fun k_ hk_ => ⟨hk_.1.1.1, hk_.1.1.2, hk_.1.2⟩)); have n3_ := Aside0.mk (blk_kept (by (with_reducible repeat (first | refine blk_drewN ?_ _ | refine blk_drew ?_ | refine blk_alloc ?_ _)); exact BK569.out) hkp (fun hs_ => (fun e_ => (Kd.R_ne HO_9.out BK569.out (by decide)) e_) hs_)); have n4_ := Aside0.mk (blk_kept (by (with_reducible repeat (first | refine blk_drewN ?_ _ | refine blk_drew ?_ | refine blk_alloc ?_ _)); exact BK578.out) hkp (fun hs_ => (fun e_ => (Kd.R_ne HO_9.out BK578.out (by decide)) e_) hs_)); have n5_ := Aside0.mk (Kd.R_mono (ok' := fun k_ => some k_ ≠ (.slice Ao17 t570.length co17 : Value).ownBlock ∧ some k_ ≠ (.slice Ao15 t565.length co15 : Value).ownBlock ∧ some k_ ≠ (.slice Ao22 t574.length co22 : Value).ownBlock) (Kd.R_keptB (HO582.out) hkp (fun k_ hk_ hs_ => (hk_.1.1.2) hs_)) (fun k_ hk_ => ⟨hk_.1.1.1.2, hk_.1.1.2, hk_.1.2⟩)); have n6_ := Aside0.mk (hb); clear HO_9; clear HO_570001; clear HO_579001; clear BK569; clear BK578; clear HO582; clear HB; have HO_9 := n0_; have HO_570001 := n1_; have HO_579001 := n2_; have BK569 := n3_; have BK578 := n4_; have HO582 := n5_; have HB := n6_; clear n0_ n1_ n2_ n3_ n4_ n5_ n6_; (try clear hb); (try clear hkp); (try clear hy0)))
            (try simp only [Act.put, List.setIfInBounds_toArray, List.set_cons_zero, List.set_cons_succ])
            go_cut [66] (fun v66 wc => ∃ (kq : Nat) (x66_37 : Bool), v66 = .bool x66_37 ∧ Aside0 (laws_FnExactMomentsOfSteps.j1 kq a0 l1 a2 t568 x66_37 t564 t565 t573 t574 = some r) ∧ Aside0 (kq ≤ kj8) ∧ Aside0 (Kd.R (Kd.int .i64) 2 wc w.heap.size (fun k_ => some k_ ≠ ((.slice Ao22 t574.length co22) : Value).ownBlock) (.slice Ao15 t565.length co15) t565) ∧ Aside0 (Kd.R (Kd.int .i64) 2 wc w.heap.size (fun k_ => some k_ ≠ ((.slice Ao15 t565.length co15) : Value).ownBlock) (.slice Ao22 t574.length co22) t574) ∧ Aside0 (wc.heap[gb569]? = some (.cells #[.int .i64 t564, (.slice Ao15 t565.length co15)] 47 (0, 0))) ∧ Aside0 (wc.heap[gb578]? = some (.cells #[.int .i64 t573, (.slice Ao22 t574.length co22)] 47 (0, 0))) ∧ Aside0 (Below w.heap.size w wc))
            case first =>
              have H := HC38.out
              clear HC38
              by_cases c42 : t584 < 0
              · rw [if_pos c42] at H
                have c42b0 : decide (t584 < 0) = true := decide_eq_true c42
                clear c42
                (first | rw [c42b0] | (simp only [i64_w, i32_w]; rw [c42b0]) | skip)
                have H' := Aside0.mk H
                clear H
                go_wp2
                go_meet
                case rel => exact ⟨_, (true), ea_, H', ⟨by have := HJ8.out; first | omega | exact Nat.le_refl _⟩, ⟨by (with_reducible repeat (first | apply Kd.R_alloc | apply Kd.R_drewN | apply Kd.R_drew)); exact Kd.R_mono HO_570001.out (fun _ hk => hk.2.1)⟩, ⟨by (with_reducible repeat (first | apply Kd.R_alloc | apply Kd.R_drewN | apply Kd.R_drew)); exact Kd.R_mono HO_579001.out (fun _ hk => hk.2.1)⟩, ⟨by (with_reducible repeat (first | refine blk_drewN ?_ _ | refine blk_drew ?_ | refine blk_alloc ?_ _)); exact BK569.out⟩, ⟨by (with_reducible repeat (first | refine blk_drewN ?_ _ | refine blk_drew ?_ | refine blk_alloc ?_ _)); exact BK578.out⟩, ⟨by repeat (first | (with_reducible first | exact HB.out | apply below_alloc | apply pw_below_drewN | apply below_drew1 | refine below_set ?_ GE569.out | refine below_set ?_ GE578.out) | exact HB.out)⟩⟩
              · rw [if_neg c42] at H
                have c42b0 : decide (t584 < 0) = false := decide_eq_false c42
                clear c42
                (first | rw [c42b0] | (simp only [i64_w, i32_w]; rw [c42b0]) | skip)
                replace H := Option.bind_eq_some_iff.mp H
                obtain ⟨t586, A430, H⟩ := H
                have A43 := Aside0.mk A430
                clear A430
                by_cases c44 : t586 = true
                · subst c44
                  have H1 : (laws_FnExactMomentsOfSteps.j1 kj8 a0 l1 a2 t568 (t577 != t568) t564 t565 t573 t574) = some r := by rw [if_pos rfl] at H; exact H
                  clear H
                  have H := H1
                  clear H1
                  have H' := Aside0.mk H
                  clear H
                  have hnb45 := NB578_569.out
                  have hnc45 := NB569_578.out
                  have hcz46_0 : w41.cell? ⟨gb578, 0, none⟩ = some (.int .i64 t573) := (blk_cell BK578.out 0).trans rfl
                  have hcz46_1 : w41.cell? ⟨gb578, 1, none⟩ = some (.slice Ao22 t574.length co22) := (blk_cell BK578.out 1).trans rfl
                  have hfz46_0 := blk_frozen BK578.out 0
                  have hfz46_1 := blk_frozen BK578.out 1
                  have hcz47_0 : w41.cell? ⟨gb569, 0, none⟩ = some (.int .i64 t564) := (blk_cell BK569.out 0).trans rfl
                  have hcz47_1 : w41.cell? ⟨gb569, 1, none⟩ = some (.slice Ao15 t565.length co15) := (blk_cell BK569.out 1).trans rfl
                  have hfz47_0 := blk_frozen BK569.out 0
                  have hfz47_1 := blk_frozen BK569.out 1
                  go_wp2_with (first | (go_at_call 31; (with_reducible refine (laws_eqMoments.calls kj8 t573 _ _ t574 t564 _ _ t565 true _ ?side1 ?side2 ?side3 ?side4 A43.out).mono ?_); (case side1 => exact cs ((Kd.R_reads' HO_579001.out).2.2)); (case side2 => exact (Kd.R_reads' HO_579001.out).2.1); (case side3 => exact cs ((Kd.R_reads' HO_570001.out).2.2)); (case side4 => exact (Kd.R_reads' HO_570001.out).2.1); rintro e w48 ⟨rfl, hb⟩; have n0_ := Aside0.mk (Kd.R_below (rs HO_9) hb); have n1_ := Aside0.mk (Kd.R_below (rs HO_570001) hb); have n2_ := Aside0.mk (Kd.R_below (rs HO_579001) hb); have n3_ := Aside0.mk (Kd.R_below (rs HO582) hb); have n4_ := Aside0.mk (blk_below (g := gb569) (o := .cells #[.int .i64 t564, .slice Ao15 t565.length co15] 47 (0, 0)) (by (with_reducible repeat (first | refine blk_drewN ?_ _ | refine blk_drew ?_ | refine blk_alloc ?_ _)); exact BK569.out) hb); have n5_ := Aside0.mk (blk_below (g := gb578) (o := .cells #[.int .i64 t573, .slice Ao22 t574.length co22] 47 (0, 0)) (by (with_reducible repeat (first | refine blk_drewN ?_ _ | refine blk_drew ?_ | refine blk_alloc ?_ _)); exact BK578.out) hb); have n6_ := Aside0.mk (below_step (by repeat (first | (with_reducible first | exact HB.out | apply below_alloc | apply pw_below_drewN | apply below_drew1 | refine below_set ?_ GE569.out | refine below_set ?_ GE578.out) | exact HB.out)) hb); clear HO_9; clear HO_570001; clear HO_579001; clear HO582; clear BK569; clear BK578; clear HB; have HO_9 := n0_; have HO_570001 := n1_; have HO_579001 := n2_; have HO582 := n3_; have BK569 := n4_; have BK578 := n5_; have HB := n6_; clear n0_ n1_ n2_ n3_ n4_ n5_ n6_; (try clear hb); (try clear hb2); (try clear hk); (try clear hi)))
                  go_meet
                  case rel => exact ⟨_, ((t577 != t568)), ea_, H', ⟨by have := HJ8.out; first | omega | exact Nat.le_refl _⟩, ⟨by (with_reducible repeat (first | apply Kd.R_alloc | apply Kd.R_drewN | apply Kd.R_drew)); exact Kd.R_mono HO_570001.out (fun _ hk => hk.2.1)⟩, ⟨by (with_reducible repeat (first | apply Kd.R_alloc | apply Kd.R_drewN | apply Kd.R_drew)); exact Kd.R_mono HO_579001.out (fun _ hk => hk.2.1)⟩, ⟨by (with_reducible repeat (first | refine blk_drewN ?_ _ | refine blk_drew ?_ | refine blk_alloc ?_ _)); exact BK569.out⟩, ⟨by (with_reducible repeat (first | refine blk_drewN ?_ _ | refine blk_drew ?_ | refine blk_alloc ?_ _)); exact BK578.out⟩, ⟨by repeat (first | (with_reducible first | exact HB.out | apply below_alloc | apply pw_below_drewN | apply below_drew1 | refine below_set ?_ GE569.out | refine below_set ?_ GE578.out) | exact HB.out)⟩⟩
                · replace c44 := Bool.eq_false_iff.mpr c44
                  subst c44
                  have H1 : (laws_FnExactMomentsOfSteps.j1 kj8 a0 l1 a2 t568 true t564 t565 t573 t574) = some r := by rw [if_neg (show ¬ (false = true) by decide)] at H; exact H
                  clear H
                  have H := H1
                  clear H1
                  have H' := Aside0.mk H
                  clear H
                  have hnb49 := NB578_569.out
                  have hnc49 := NB569_578.out
                  have hcz50_0 : w41.cell? ⟨gb578, 0, none⟩ = some (.int .i64 t573) := (blk_cell BK578.out 0).trans rfl
                  have hcz50_1 : w41.cell? ⟨gb578, 1, none⟩ = some (.slice Ao22 t574.length co22) := (blk_cell BK578.out 1).trans rfl
                  have hfz50_0 := blk_frozen BK578.out 0
                  have hfz50_1 := blk_frozen BK578.out 1
                  have hcz51_0 : w41.cell? ⟨gb569, 0, none⟩ = some (.int .i64 t564) := (blk_cell BK569.out 0).trans rfl
                  have hcz51_1 : w41.cell? ⟨gb569, 1, none⟩ = some (.slice Ao15 t565.length co15) := (blk_cell BK569.out 1).trans rfl
                  have hfz51_0 := blk_frozen BK569.out 0
                  have hfz51_1 := blk_frozen BK569.out 1
                  go_wp2_with (first | (go_at_call 31; (with_reducible refine (laws_eqMoments.calls kj8 t573 _ _ t574 t564 _ _ t565 false _ ?side1 ?side2 ?side3 ?side4 A43.out).mono ?_); (case side1 => exact cs ((Kd.R_reads' HO_579001.out).2.2)); (case side2 => exact (Kd.R_reads' HO_579001.out).2.1); (case side3 => exact cs ((Kd.R_reads' HO_570001.out).2.2)); (case side4 => exact (Kd.R_reads' HO_570001.out).2.1); rintro e w52 ⟨rfl, hb⟩; have n0_ := Aside0.mk (Kd.R_below (rs HO_9) hb); have n1_ := Aside0.mk (Kd.R_below (rs HO_570001) hb); have n2_ := Aside0.mk (Kd.R_below (rs HO_579001) hb); have n3_ := Aside0.mk (Kd.R_below (rs HO582) hb); have n4_ := Aside0.mk (blk_below (g := gb569) (o := .cells #[.int .i64 t564, .slice Ao15 t565.length co15] 47 (0, 0)) (by (with_reducible repeat (first | refine blk_drewN ?_ _ | refine blk_drew ?_ | refine blk_alloc ?_ _)); exact BK569.out) hb); have n5_ := Aside0.mk (blk_below (g := gb578) (o := .cells #[.int .i64 t573, .slice Ao22 t574.length co22] 47 (0, 0)) (by (with_reducible repeat (first | refine blk_drewN ?_ _ | refine blk_drew ?_ | refine blk_alloc ?_ _)); exact BK578.out) hb); have n6_ := Aside0.mk (below_step (by repeat (first | (with_reducible first | exact HB.out | apply below_alloc | apply pw_below_drewN | apply below_drew1 | refine below_set ?_ GE569.out | refine below_set ?_ GE578.out) | exact HB.out)) hb); clear HO_9; clear HO_570001; clear HO_579001; clear HO582; clear BK569; clear BK578; clear HB; have HO_9 := n0_; have HO_570001 := n1_; have HO_579001 := n2_; have HO582 := n3_; have BK569 := n4_; have BK578 := n5_; have HB := n6_; clear n0_ n1_ n2_ n3_ n4_ n5_ n6_; (try clear hb); (try clear hb2); (try clear hk); (try clear hi)))
                  go_meet
                  case rel => exact ⟨_, (true), ea_, H', ⟨by have := HJ8.out; first | omega | exact Nat.le_refl _⟩, ⟨by (with_reducible repeat (first | apply Kd.R_alloc | apply Kd.R_drewN | apply Kd.R_drew)); exact Kd.R_mono HO_570001.out (fun _ hk => hk.2.1)⟩, ⟨by (with_reducible repeat (first | apply Kd.R_alloc | apply Kd.R_drewN | apply Kd.R_drew)); exact Kd.R_mono HO_579001.out (fun _ hk => hk.2.1)⟩, ⟨by (with_reducible repeat (first | refine blk_drewN ?_ _ | refine blk_drew ?_ | refine blk_alloc ?_ _)); exact BK569.out⟩, ⟨by (with_reducible repeat (first | refine blk_drewN ?_ _ | refine blk_drew ?_ | refine blk_alloc ?_ _)); exact BK578.out⟩, ⟨by repeat (first | (with_reducible first | exact HB.out | apply below_alloc | apply pw_below_drewN | apply below_drew1 | refine below_set ?_ GE569.out | refine below_set ?_ GE578.out) | exact HB.out)⟩⟩
            case rest =>
              clear HC38
              try clear c1
              try clear c2
              try clear p2
              try clear c3
              try clear c4
              try clear c4b0
              try clear c4b1
              try clear c7
              try clear c10
              try clear c13
              try clear c14
              try clear c20
              try clear c24
              try clear c25
              try clear c29
              try clear c31
              try clear c33
              try clear c36
              try clear c37
              try clear c42
              try clear c42b0
              try clear c44
              try clear c45
              try clear c49
              try clear hcz14_0
              try clear hcz14_1
              try clear hcz21_0
              try clear hcz21_1
              try clear hcz26_0
              try clear hcz26_1
              try clear hcz27_0
              try clear hcz27_1
              try clear hcz30_0
              try clear hcz30_1
              try clear hcz31_0
              try clear hcz31_1
              try clear hcz46_0
              try clear hcz46_1
              try clear hcz47_0
              try clear hcz47_1
              try clear hcz50_0
              try clear hcz50_1
              try clear hcz51_0
              try clear hcz51_1
              try clear hfz14_0
              try clear hfz14_1
              try clear hfz21_0
              try clear hfz21_1
              try clear hfz26_0
              try clear hfz26_1
              try clear hfz27_0
              try clear hfz27_1
              try clear hfz30_0
              try clear hfz30_1
              try clear hfz31_0
              try clear hfz31_1
              try clear hfz46_0
              try clear hfz46_1
              try clear hfz47_0
              try clear hfz47_1
              try clear hfz50_0
              try clear hfz50_1
              try clear hfz51_0
              try clear hfz51_1
              try clear p2
              obtain ⟨kq, x66_37, rfl, HA, HJ37, HO_570001, HO_579001, BK569, BK578, HB⟩ := hcut
              cases kq with
              | zero => exact absurd HA.out (by simp [laws_FnExactMomentsOfSteps.j1])
              | succ kj37 =>
                have H := HA.out
                clear HA
                simp only [laws_FnExactMomentsOfSteps.j1] at H
                by_cases c53 : x66_37 = true
                · subst c53
                  have H1 : (some false) = some r := by rw [if_pos rfl] at H; exact H
                  clear H
                  have H := H1
                  clear H1
                  obtain rfl := Option.some.inj H
                  go_wp2
                  go_ret
                  exact ⟨by first | rfl | (simp [errW_none, errW_some] <;> rfl) | (simp [*, errW_none, errW_some] <;> rfl), by repeat (first | (with_reducible first | exact HB.out | apply below_alloc | apply pw_below_drewN | apply below_drew1 | refine below_set ?_ GE569.out | refine below_set ?_ GE578.out) | exact HB.out)⟩
                · replace c53 := Bool.eq_false_iff.mpr c53
                  subst c53
                  have H1 : ((laws_markMoments.f kj37 t573 t574 1).bind fun bt587 => ((laws_heldMoments.f kj37 t573 bt587.2 1).bind fun t589 => (if t589 < 0 then (some false) else (if t589 = bt587.1 then ((laws_toInt64S.f kj37 l1).bind fun t590 => ((impl_MomentsOfSteps.f kj37 a0 t590 a2).bind fun bt593 => ((laws_eqMoments.f kj37 bt593.1 bt593.2.1 t564 t565).bind fun t599 => (if t599 = true then (laws_FnExactMomentsOfSteps.j2 kj37 bt587.1 (bt593.2.2 != t568) t573 bt587.2) else (laws_FnExactMomentsOfSteps.j2 kj37 bt587.1 true t573 bt587.2))))) else (some false))))) = some r := by rw [if_neg (show ¬ (false = true) by decide)] at H; exact H
                  clear H
                  have H := H1
                  clear H1
                  replace H := Option.bind_eq_some_iff.mp H
                  obtain ⟨⟨t587, t588⟩, A540, H⟩ := H
                  have A54 := Aside0.mk A540
                  clear A540
                  replace H := Option.bind_eq_some_iff.mp H
                  obtain ⟨t589, A550, H⟩ := H
                  have A55 := Aside0.mk A550
                  clear A550
                  by_cases c56 : t589 < 0
                  · rw [if_pos c56] at H
                    have c56b0 : decide (t589 < 0) = true := decide_eq_true c56
                    clear c56
                    obtain rfl := Option.some.inj H
                    have hnb57 := NB578_569.out
                    have hnc57 := NB569_578.out
                    have hcz58_0 : wc.cell? ⟨gb578, 0, none⟩ = some (.int .i64 t573) := (blk_cell BK578.out 0).trans rfl
                    have hcz58_1 : wc.cell? ⟨gb578, 1, none⟩ = some (.slice Ao22 t574.length co22) := (blk_cell BK578.out 1).trans rfl
                    have hfz58_0 := blk_frozen BK578.out 0
                    have hfz58_1 := blk_frozen BK578.out 1
                    go_wp2_with (first | ((with_reducible refine gate_callee (f := 38) rfl ?_); refine goesM_ (some 69) rfl rfl Try.func38 #[.agg #[.int .i64 t573, .slice Ao22 t574.length co22], .int .i64 1] rfl ?_; (with_reducible refine (laws_markMoments.calls kj37 t573 (fun k_ => some k_ = (.slice Ao22 t574.length co22 : Value).ownBlock) (.slice Ao22 t574.length co22) t574 1 t587 t588 w _ ?side1 ?side2 A54.out).mono ?_); (case side1 => repeat (first | (with_reducible first | exact HB.out | apply below_alloc | apply pw_below_drewN | apply below_drew1 | refine below_set ?_ GE569.out | refine below_set ?_ GE578.out) | exact HB.out)); (case side2 => exact Kd.R_tight rfl HO_579001.out); rintro e w59 ⟨rfl, hy0, hb, hkp⟩; refine ⟨_, rfl, ?_⟩; have n0_ := Aside0.mk (Kd.R_mono (ok' := fun k_ => some k_ ≠ (.slice Ao22 t574.length co22 : Value).ownBlock) (Kd.R_keptB (HO_570001.out) hkp (fun k_ hk_ hs_ => (hk_) hs_)) (fun k_ hk_ => hk_.1)); have n1_ := Aside0.mk (Kd.R_reok rfl hy0 (fun k_ e_ => HO_579001.out.1 k_ e_)); have n2_ := Aside0.mk (blk_kept (by (with_reducible repeat (first | refine blk_drewN ?_ _ | refine blk_drew ?_ | refine blk_alloc ?_ _)); exact BK569.out) hkp (fun hs_ => (fun e_ => (Kd.R_ne HO_579001.out BK569.out (by decide)) e_) hs_)); have n3_ := Aside0.mk (blk_kept (by (with_reducible repeat (first | refine blk_drewN ?_ _ | refine blk_drew ?_ | refine blk_alloc ?_ _)); exact BK578.out) hkp (fun hs_ => (fun e_ => (Kd.R_ne HO_579001.out BK578.out (by decide)) e_) hs_)); have n4_ := Aside0.mk (hb); clear HO_570001; clear HO_579001; clear BK569; clear BK578; clear HB; have HO_570001 := n0_; have HO_579001 := n1_; have BK569 := n2_; have BK578 := n3_; have HB := n4_; clear n0_ n1_ n2_ n3_ n4_; (try clear hb); (try clear hkp); (try clear hy0); have hcz60_0 : w59.cell? ⟨gb578, 0, none⟩ = some (.int .i64 t573) := (blk_cell BK578.out 0).trans rfl; have hcz60_1 : w59.cell? ⟨gb578, 1, none⟩ = some (.slice Ao22 t574.length co22) := (blk_cell BK578.out 1).trans rfl; have hfz60_0 := blk_frozen BK578.out 0; have hfz60_1 := blk_frozen BK578.out 1) | ((with_reducible refine gate_callee (f := 39) rfl ?_); refine goesL_ (some 72) rfl rfl Try.func39 (by kernel_rfl) rfl #[.agg #[.int .i64 t573, .slice Ao22 t588.length co22], .int .i64 1] rfl (by (try simp only [List.map_toArray, List.map_cons, List.map_nil]); first | done | (rw [show t588.length = t574.length from (Kd.R_reads' HO_579001.out).1.symm] <;> rfl) | rfl | (simp only [List.length_drop, List.length_take]; rfl)) ?_; (with_reducible refine (laws_heldMoments.calls kj37 t573 _ _ t588 1 t589 _ ?side1 ?side2 A55.out).mono ?_); (case side1 => exact cs ((Kd.R_reads' HO_579001.out).2.2)); (case side2 => rw [show t588.length = t574.length from (Kd.R_reads' HO_579001.out).1.symm]; exact (Kd.R_reads' HO_579001.out).2.1); rintro e w61 ⟨rfl, hb⟩; refine ⟨_, rfl, ?_⟩; have n0_ := Aside0.mk (Kd.R_below (rs HO_570001) hb); have n1_ := Aside0.mk (Kd.R_below (rs HO_579001) hb); have n2_ := Aside0.mk (blk_below (g := gb569) (o := .cells #[.int .i64 t564, .slice Ao15 t565.length co15] 47 (0, 0)) (by (with_reducible repeat (first | refine blk_drewN ?_ _ | refine blk_drew ?_ | refine blk_alloc ?_ _)); exact BK569.out) hb); have n3_ := Aside0.mk (blk_below (g := gb578) (o := .cells #[.int .i64 t573, .slice Ao22 t574.length co22] 47 (0, 0)) (by (with_reducible repeat (first | refine blk_drewN ?_ _ | refine blk_drew ?_ | refine blk_alloc ?_ _)); exact BK578.out) hb); have n4_ := Aside0.mk (below_step (by repeat (first | (with_reducible first | exact HB.out | apply below_alloc | apply pw_below_drewN | apply below_drew1 | refine below_set ?_ GE569.out | refine below_set ?_ GE578.out) | exact HB.out)) hb); clear HO_570001; clear HO_579001; clear BK569; clear BK578; clear HB; have HO_570001 := n0_; have HO_579001 := n1_; have BK569 := n2_; have BK578 := n3_; have HB := n4_; clear n0_ n1_ n2_ n3_ n4_; (try clear hb); (try clear hb2); (try clear hk); (try clear hi)))
                    go_ret
                    exact ⟨by first | rfl | (simp [errW_none, errW_some] <;> rfl) | (simp [*, errW_none, errW_some] <;> rfl), by repeat (first | (with_reducible first | exact HB.out | apply below_alloc | apply pw_below_drewN | apply below_drew1 | refine below_set ?_ GE569.out | refine below_set ?_ GE578.out) | exact HB.out)⟩
                  · rw [if_neg c56] at H
                    have c56b0 : decide (t589 < 0) = false := decide_eq_false c56
                    clear c56
                    by_cases c62 : t589 = t587
                    · rw [if_pos c62] at H
                      have c62b0 : (t589 == t587) = true := beq_iff_eq.mpr c62
                      have c62b1 : (t589 != t587) = false := bne_eq_false_iff_eq.mpr c62
                      clear c62
                      replace H := Option.bind_eq_some_iff.mp H
                      obtain ⟨t590, A630, H⟩ := H
                      have A63 := Aside0.mk A630
                      clear A630
                      replace H := Option.bind_eq_some_iff.mp H
                      obtain ⟨⟨t593, t594, t597⟩, A640, H⟩ := H
                      have A64 := Aside0.mk A640
                      clear A640
                      have HC65 := Aside0.mk H
                      clear H
                      have hnb66 := NB578_569.out
                      have hnc66 := NB569_578.out
                      have hcz67_0 : wc.cell? ⟨gb578, 0, none⟩ = some (.int .i64 t573) := (blk_cell BK578.out 0).trans rfl
                      have hcz67_1 : wc.cell? ⟨gb578, 1, none⟩ = some (.slice Ao22 t574.length co22) := (blk_cell BK578.out 1).trans rfl
                      have hfz67_0 := blk_frozen BK578.out 0
                      have hfz67_1 := blk_frozen BK578.out 1
                      go_upto_region 23 with (first | ((with_reducible refine gate_callee (f := 38) rfl ?_); refine goesM_ (some 69) rfl rfl Try.func38 #[.agg #[.int .i64 t573, .slice Ao22 t574.length co22], .int .i64 1] rfl ?_; (with_reducible refine (laws_markMoments.calls kj37 t573 (fun k_ => some k_ = (.slice Ao22 t574.length co22 : Value).ownBlock) (.slice Ao22 t574.length co22) t574 1 t587 t588 w _ ?side1 ?side2 A54.out).mono ?_); (case side1 => repeat (first | (with_reducible first | exact HB.out | apply below_alloc | apply pw_below_drewN | apply below_drew1 | refine below_set ?_ GE569.out | refine below_set ?_ GE578.out) | exact HB.out)); (case side2 => exact Kd.R_tight rfl HO_579001.out); rintro e w68 ⟨rfl, hy0, hb, hkp⟩; refine ⟨_, rfl, ?_⟩; have n0_ := Aside0.mk (Kd.R_mono (ok' := fun k_ => some k_ ≠ (.slice Ao22 t574.length co22 : Value).ownBlock) (Kd.R_keptB (HO_570001.out) hkp (fun k_ hk_ hs_ => (hk_) hs_)) (fun k_ hk_ => hk_.1)); have n1_ := Aside0.mk (Kd.R_reok rfl hy0 (fun k_ e_ => HO_579001.out.1 k_ e_)); have n2_ := Aside0.mk (blk_kept (by (with_reducible repeat (first | refine blk_drewN ?_ _ | refine blk_drew ?_ | refine blk_alloc ?_ _)); exact BK569.out) hkp (fun hs_ => (fun e_ => (Kd.R_ne HO_579001.out BK569.out (by decide)) e_) hs_)); have n3_ := Aside0.mk (blk_kept (by (with_reducible repeat (first | refine blk_drewN ?_ _ | refine blk_drew ?_ | refine blk_alloc ?_ _)); exact BK578.out) hkp (fun hs_ => (fun e_ => (Kd.R_ne HO_579001.out BK578.out (by decide)) e_) hs_)); have n4_ := Aside0.mk (hb); clear HO_570001; clear HO_579001; clear BK569; clear BK578; clear HB; have HO_570001 := n0_; have HO_579001 := n1_; have BK569 := n2_; have BK578 := n3_; have HB := n4_; clear n0_ n1_ n2_ n3_ n4_; (try clear hb); (try clear hkp); (try clear hy0); have hcz69_0 : w68.cell? ⟨gb578, 0, none⟩ = some (.int .i64 t573) := (blk_cell BK578.out 0).trans rfl; have hcz69_1 : w68.cell? ⟨gb578, 1, none⟩ = some (.slice Ao22 t574.length co22) := (blk_cell BK578.out 1).trans rfl; have hfz69_0 := blk_frozen BK578.out 0; have hfz69_1 := blk_frozen BK578.out 1) | ((with_reducible refine gate_callee (f := 39) rfl ?_); refine goesL_ (some 72) rfl rfl Try.func39 (by kernel_rfl) rfl #[.agg #[.int .i64 t573, .slice Ao22 t588.length co22], .int .i64 1] rfl (by (try simp only [List.map_toArray, List.map_cons, List.map_nil]); first | done | (rw [show t588.length = t574.length from (Kd.R_reads' HO_579001.out).1.symm] <;> rfl) | rfl | (simp only [List.length_drop, List.length_take]; rfl)) ?_; (with_reducible refine (laws_heldMoments.calls kj37 t573 _ _ t588 1 t589 _ ?side1 ?side2 A55.out).mono ?_); (case side1 => exact cs ((Kd.R_reads' HO_579001.out).2.2)); (case side2 => rw [show t588.length = t574.length from (Kd.R_reads' HO_579001.out).1.symm]; exact (Kd.R_reads' HO_579001.out).2.1); rintro e w70 ⟨rfl, hb⟩; refine ⟨_, rfl, ?_⟩; have n0_ := Aside0.mk (Kd.R_below (rs HO_570001) hb); have n1_ := Aside0.mk (Kd.R_below (rs HO_579001) hb); have n2_ := Aside0.mk (blk_below (g := gb569) (o := .cells #[.int .i64 t564, .slice Ao15 t565.length co15] 47 (0, 0)) (by (with_reducible repeat (first | refine blk_drewN ?_ _ | refine blk_drew ?_ | refine blk_alloc ?_ _)); exact BK569.out) hb); have n3_ := Aside0.mk (blk_below (g := gb578) (o := .cells #[.int .i64 t573, .slice Ao22 t574.length co22] 47 (0, 0)) (by (with_reducible repeat (first | refine blk_drewN ?_ _ | refine blk_drew ?_ | refine blk_alloc ?_ _)); exact BK578.out) hb); have n4_ := Aside0.mk (below_step (by repeat (first | (with_reducible first | exact HB.out | apply below_alloc | apply pw_below_drewN | apply below_drew1 | refine below_set ?_ GE569.out | refine below_set ?_ GE578.out) | exact HB.out)) hb); clear HO_570001; clear HO_579001; clear BK569; clear BK578; clear HB; have HO_570001 := n0_; have HO_579001 := n1_; have BK569 := n2_; have BK578 := n3_; have HB := n4_; clear n0_ n1_ n2_ n3_ n4_; (try clear hb); (try clear hb2); (try clear hk); (try clear hi)) | ((with_reducible refine gate_callee (f := 10) rfl ?_); refine goesM_ (some 81) rfl rfl Try.func10 #[.slice A1 l1.length c1] rfl ?_; (with_reducible refine (laws_toInt64S.calls kj37 _ _ l1 t590 _ ?side1 ?side2 A63.out).mono ?_); (case side1 => exact cs ((Kd.C_below HR1.out HB.out))); (case side2 => exact HC1.out); rintro e w71 ⟨v591, rfl, ho0, hb⟩; refine ⟨_, rfl, ?_⟩; have n0_ := Aside0.mk (Kd.R_elder' (rs HO_570001) (Kd.R_base ho0) hb); have n1_ := Aside0.mk (Kd.R_elder' (rs HO_579001) (Kd.R_base ho0) hb); have n2_ := Aside0.mk (Kd.R_lower (Kd.R_new' (Kd.R_new' ho0 (Kd.R_lt (rs HO_570001))) (Kd.R_lt (rs HO_579001))) (below_size (by repeat (first | (with_reducible first | exact HB.out | apply below_alloc | apply pw_below_drewN | apply below_drew1 | refine below_set ?_ GE569.out | refine below_set ?_ GE578.out) | exact HB.out)))); have n3_ := Aside0.mk (blk_below (g := gb569) (o := .cells #[.int .i64 t564, .slice Ao15 t565.length co15] 47 (0, 0)) (by (with_reducible repeat (first | refine blk_drewN ?_ _ | refine blk_drew ?_ | refine blk_alloc ?_ _)); exact BK569.out) hb); have n4_ := Aside0.mk (blk_below (g := gb578) (o := .cells #[.int .i64 t573, .slice Ao22 t574.length co22] 47 (0, 0)) (by (with_reducible repeat (first | refine blk_drewN ?_ _ | refine blk_drew ?_ | refine blk_alloc ?_ _)); exact BK578.out) hb); have n5_ := Aside0.mk (below_step (by repeat (first | (with_reducible first | exact HB.out | apply below_alloc | apply pw_below_drewN | apply below_drew1 | refine below_set ?_ GE569.out | refine below_set ?_ GE578.out) | exact HB.out)) hb); clear HO_570001; clear HO_579001; clear BK569; clear BK578; clear HB; have HO_570001 := n0_; have HO_579001 := n1_; have HO592 := n2_; have BK569 := n3_; have BK578 := n4_; have HB := n5_; clear n0_ n1_ n2_ n3_ n4_ n5_; (try clear hb); (try clear hb2); (try clear hk); (try clear hi); (try clear ho0); obtain ⟨Ao72, co72, eo72⟩ := Kd.R_slice HO592.out; subst eo72) | ((with_reducible refine gate_callee (f := 37) rfl ?_); refine goesM_ (some 83) rfl rfl Try.func37 #[.int .i64 a0, .slice Ao72 t590.length co72, .int .i64 a2] rfl ?_; (with_reducible refine (impl_MomentsOfSteps.calls kj37 a0 _ _ t590 a2 t593 t594 t597 _ ?side1 ?side2 A64.out).mono ?_); (case side1 => exact cs ((Kd.R_reads' HO592.out).2.2)); (case side2 => exact (Kd.R_reads' HO592.out).2.1); rintro e w73 ⟨v595, rfl, ho0, hb⟩; refine ⟨_, rfl, ?_⟩; have n0_ := Aside0.mk (Kd.R_elder' (rs HO_570001) (Kd.R_base ho0) hb); have n1_ := Aside0.mk (Kd.R_elder' (rs HO_579001) (Kd.R_base ho0) hb); have n2_ := Aside0.mk (Kd.R_elder' (rs HO592) (Kd.R_base ho0) hb); have n3_ := Aside0.mk (Kd.R_lower (Kd.R_new' (Kd.R_new' (Kd.R_new' ho0 (Kd.R_lt (rs HO_570001))) (Kd.R_lt (rs HO_579001))) (Kd.R_lt (rs HO592))) (below_size (by repeat (first | (with_reducible first | exact HB.out | apply below_alloc | apply pw_below_drewN | apply below_drew1 | refine below_set ?_ GE569.out | refine below_set ?_ GE578.out) | exact HB.out)))); have n4_ := Aside0.mk (blk_below (g := gb569) (o := .cells #[.int .i64 t564, .slice Ao15 t565.length co15] 47 (0, 0)) (by (with_reducible repeat (first | refine blk_drewN ?_ _ | refine blk_drew ?_ | refine blk_alloc ?_ _)); exact BK569.out) hb); have n5_ := Aside0.mk (blk_below (g := gb578) (o := .cells #[.int .i64 t573, .slice Ao22 t574.length co22] 47 (0, 0)) (by (with_reducible repeat (first | refine blk_drewN ?_ _ | refine blk_drew ?_ | refine blk_alloc ?_ _)); exact BK578.out) hb); have n6_ := Aside0.mk (below_step (by repeat (first | (with_reducible first | exact HB.out | apply below_alloc | apply pw_below_drewN | apply below_drew1 | refine below_set ?_ GE569.out | refine below_set ?_ GE578.out) | exact HB.out)) hb); clear HO_570001; clear HO_579001; clear HO592; clear BK569; clear BK578; clear HB; have HO_570001 := n0_; have HO_579001 := n1_; have HO592 := n2_; have HO596 := n3_; have BK569 := n4_; have BK578 := n5_; have HB := n6_; clear n0_ n1_ n2_ n3_ n4_ n5_ n6_; (try clear hb); (try clear hb2); (try clear hk); (try clear hi); (try clear ho0)) | ((with_reducible refine gate_dst (N := 15) rfl ?_); refine box_event ?hg (N := 15) ?hd (cs := #[.int .i64 0, .slice none 0 0]) (t := 47) ?hr ?_; (case hd => rfl); (case hg => rfl); (case hr => first | (go_simp; done) | (go_simp; rfl)); intro gb598 hg w74 hbox hb; have n0_ := Aside0.mk (Kd.R_below (rs HO_570001) hb); have n1_ := Aside0.mk (Kd.R_below (rs HO_579001) hb); have n2_ := Aside0.mk (Kd.R_below (rs HO592) hb); have n3_ := Aside0.mk (Kd.R_below (rs HO596) hb); have n4_ := Aside0.mk (blk_below (g := gb569) (o := .cells #[.int .i64 t564, .slice Ao15 t565.length co15] 47 (0, 0)) (by (with_reducible repeat (first | refine blk_drewN ?_ _ | refine blk_drew ?_ | refine blk_alloc ?_ _)); exact BK569.out) hb); have n5_ := Aside0.mk (blk_below (g := gb578) (o := .cells #[.int .i64 t573, .slice Ao22 t574.length co22] 47 (0, 0)) (by (with_reducible repeat (first | refine blk_drewN ?_ _ | refine blk_drew ?_ | refine blk_alloc ?_ _)); exact BK578.out) hb); have n6_ := Aside0.mk (below_step (by repeat (first | (with_reducible first | exact HB.out | apply below_alloc | apply pw_below_drewN | apply below_drew1 | refine below_set ?_ GE569.out | refine below_set ?_ GE578.out) | exact HB.out)) hb); have n7_ := Aside0.mk (hbox); have n8_ := Aside0.mk ((by rw [hg]; exact (below_size (by repeat (first | (with_reducible first | exact HB.out | apply below_alloc | apply pw_below_drewN | apply below_drew1 | refine below_set ?_ GE569.out | refine below_set ?_ GE578.out) | exact HB.out))) : w.heap.size ≤ gb598)); have n9_ := Aside0.mk ((by rw [hg]; exact (below_size (by repeat (first | (with_reducible first | exact HB.out | apply below_alloc | apply pw_below_drewN | apply below_drew1 | refine below_set ?_ GE569.out | refine below_set ?_ GE578.out) | exact HB.out))) : w.heap.size ≤ gb598)); have n10_ := Aside0.mk ((by rw [hg]; exact Nat.ne_of_lt (blk_lt (g := gb569) (o := .cells #[.int .i64 t564, .slice Ao15 t565.length co15] 47 (0, 0)) (by (with_reducible repeat (first | refine blk_drewN ?_ _ | refine blk_drew ?_ | refine blk_alloc ?_ _)); exact BK569.out)) : gb569 ≠ gb598)); have n11_ := Aside0.mk ((by rw [hg]; exact Nat.ne_of_gt (blk_lt (g := gb569) (o := .cells #[.int .i64 t564, .slice Ao15 t565.length co15] 47 (0, 0)) (by (with_reducible repeat (first | refine blk_drewN ?_ _ | refine blk_drew ?_ | refine blk_alloc ?_ _)); exact BK569.out)) : gb598 ≠ gb569)); have n12_ := Aside0.mk ((by rw [hg]; exact Nat.ne_of_lt (blk_lt (g := gb578) (o := .cells #[.int .i64 t573, .slice Ao22 t574.length co22] 47 (0, 0)) (by (with_reducible repeat (first | refine blk_drewN ?_ _ | refine blk_drew ?_ | refine blk_alloc ?_ _)); exact BK578.out)) : gb578 ≠ gb598)); have n13_ := Aside0.mk ((by rw [hg]; exact Nat.ne_of_gt (blk_lt (g := gb578) (o := .cells #[.int .i64 t573, .slice Ao22 t574.length co22] 47 (0, 0)) (by (with_reducible repeat (first | refine blk_drewN ?_ _ | refine blk_drew ?_ | refine blk_alloc ?_ _)); exact BK578.out)) : gb598 ≠ gb578)); clear HO_570001; clear HO_579001; clear HO592; clear HO596; clear BK569; clear BK578; clear HB; have HO_570001 := n0_; have HO_579001 := n1_; have HO592 := n2_; have HO596 := n3_; have BK569 := n4_; have BK578 := n5_; have HB := n6_; have BK598 := n7_; have GW598 := n8_; have GE598 := n9_; have NB569_598 := n10_; have NB598_569 := n11_; have NB578_598 := n12_; have NB598_578 := n13_; clear n0_ n1_ n2_ n3_ n4_ n5_ n6_ n7_ n8_ n9_ n10_ n11_ n12_ n13_; clear hb hbox hg; have hnb75 := NB598_569.out; have hnc75 := NB569_598.out; have hnb76 := NB598_578.out; have hnc76 := NB578_598.out; have hcz77_0 : w74.cell? ⟨gb598, 0, none⟩ = some (.int .i64 0) := (blk_cell BK598.out 0).trans rfl; have hcz77_1 : w74.cell? ⟨gb598, 1, none⟩ = some (.slice none 0 0) := (blk_cell BK598.out 1).trans rfl; have hfz77_0 := blk_frozen BK598.out 0; have hfz77_1 := blk_frozen BK598.out 1; obtain ⟨Ao78, co78, eo78⟩ := Kd.R_slice HO596.out; subst eo78))
                      (try simp only [Act.put, List.setIfInBounds_toArray, List.set_cons_zero, List.set_cons_succ])
                      go_cut [94] (fun v94 wc => ∃ (kq : Nat) (x94_64 : Bool), v94 = .bool x94_64 ∧ Aside0 (laws_FnExactMomentsOfSteps.j2 kq t587 x94_64 t573 t588 = some r) ∧ Aside0 (kq ≤ kj37) ∧ Aside0 (Kd.R (Kd.int .i64) 2 wc w.heap.size (fun k_ => some k_ ≠ ((.slice Ao22 t574.length co22) : Value).ownBlock ∧ some k_ ≠ ((.slice Ao78 t594.length co78) : Value).ownBlock) (.slice Ao15 t565.length co15) t565) ∧ Aside0 (Kd.R (Kd.int .i64) 2 wc w.heap.size (fun k_ => some k_ ≠ ((.slice Ao15 t565.length co15) : Value).ownBlock ∧ some k_ ≠ ((.slice Ao78 t594.length co78) : Value).ownBlock) (.slice Ao22 t574.length co22) t588) ∧ Aside0 (Kd.R (Kd.int .i64) 2 wc w.heap.size (fun k_ => some k_ ≠ ((.slice Ao15 t565.length co15) : Value).ownBlock ∧ some k_ ≠ ((.slice Ao22 t574.length co22) : Value).ownBlock) (.slice Ao78 t594.length co78) t594) ∧ Aside0 (wc.heap[gb569]? = some (.cells #[.int .i64 t564, (.slice Ao15 t565.length co15)] 47 (0, 0))) ∧ Aside0 (wc.heap[gb578]? = some (.cells #[.int .i64 t573, (.slice Ao22 t574.length co22)] 47 (0, 0))) ∧ Aside0 (wc.heap[gb598]? = some (.cells #[.int .i64 t593, (.slice Ao78 t594.length co78)] 47 (0, 0))) ∧ Aside0 (Below w.heap.size w wc))
                      case first =>
                        have H := HC65.out
                        clear HC65
                        replace H := Option.bind_eq_some_iff.mp H
                        obtain ⟨t599, A790, H⟩ := H
                        have A79 := Aside0.mk A790
                        clear A790
                        by_cases c80 : t599 = true
                        · subst c80
                          have H1 : (laws_FnExactMomentsOfSteps.j2 kj37 t587 (t597 != t568) t573 t588) = some r := by rw [if_pos rfl] at H; exact H
                          clear H
                          have H := H1
                          clear H1
                          have H' := Aside0.mk H
                          clear H
                          have hnb81 := NB598_569.out
                          have hnc81 := NB569_598.out
                          have hnb82 := NB598_578.out
                          have hnc82 := NB578_598.out
                          have hcz83_0 : w74.cell? ⟨gb598, 0, none⟩ = some (.int .i64 0) := (blk_cell BK598.out 0).trans rfl
                          have hcz83_1 : w74.cell? ⟨gb598, 1, none⟩ = some (.slice none 0 0) := (blk_cell BK598.out 1).trans rfl
                          have hfz83_0 := blk_frozen BK598.out 0
                          have hfz83_1 := blk_frozen BK598.out 1
                          have hnb84 := NB569_578.out
                          have hnc84 := NB578_569.out
                          have hcz85_0 : w74.cell? ⟨gb569, 0, none⟩ = some (.int .i64 t564) := (blk_cell BK569.out 0).trans rfl
                          have hcz85_1 : w74.cell? ⟨gb569, 1, none⟩ = some (.slice Ao15 t565.length co15) := (blk_cell BK569.out 1).trans rfl
                          have hfz85_0 := blk_frozen BK569.out 0
                          have hfz85_1 := blk_frozen BK569.out 1
                          go_wp2_with (first | ((with_reducible refine gate_callee (f := 31) rfl ?_); refine goesM_ (some 88) rfl rfl Try.func31 #[.agg #[.int .i64 t593, .slice Ao78 t594.length co78], .agg #[.int .i64 t564, .slice Ao15 t565.length co15]] rfl ?_; (with_reducible refine (laws_eqMoments.calls kj37 t593 _ _ t594 t564 _ _ t565 true _ ?side1 ?side2 ?side3 ?side4 A79.out).mono ?_); (case side1 => refine (Kd.R_reads' (e := 2) (base := w.heap.size) (ok := fun k_ => (((True ∧ some k_ ≠ (.slice Ao15 t565.length co15 : Value).ownBlock) ∧ some k_ ≠ (.slice Ao22 t574.length co22 : Value).ownBlock) ∧ some k_ ≠ (.slice Ao72 t590.length co72 : Value).ownBlock)) (n := t594.length) (c := co78) ?_).2.2; exact (by (with_reducible repeat (first | apply Kd.R_alloc | apply Kd.R_drewN | apply Kd.R_drew)); exact (Kd.R_mono (Kd.R_far (p := ⟨gb598, 1, none⟩) (Kd.R_far (p := ⟨gb598, 0, none⟩) (Kd.R_types HO596.out BK598.out (by decide)) (fun _ hk => hk.2) (.int .i64 t593)) (fun _ hk => hk.2) (.slice Ao78 t594.length co78)) (fun _ h_ => h_.1)))); (case side2 => exact (Kd.R_reads' HO596.out).2.1); (case side3 => refine (Kd.R_reads' (e := 2) (base := w.heap.size) (ok := fun k_ => ((some k_ ≠ (.slice Ao22 t574.length co22 : Value).ownBlock ∧ some k_ ≠ (.slice Ao72 t590.length co72 : Value).ownBlock) ∧ some k_ ≠ (.slice Ao78 t594.length co78 : Value).ownBlock)) (n := t565.length) (c := co15) ?_).2.2; exact (by (with_reducible repeat (first | apply Kd.R_alloc | apply Kd.R_drewN | apply Kd.R_drew)); exact (Kd.R_mono (Kd.R_far (p := ⟨gb598, 1, none⟩) (Kd.R_far (p := ⟨gb598, 0, none⟩) (Kd.R_types HO_570001.out BK598.out (by decide)) (fun _ hk => hk.2) (.int .i64 t593)) (fun _ hk => hk.2) (.slice Ao78 t594.length co78)) (fun _ h_ => h_.1)))); (case side4 => exact (Kd.R_reads' HO_570001.out).2.1); rintro e w86 ⟨rfl, hb⟩; refine ⟨_, rfl, ?_⟩; have n0_ := Aside0.mk (Kd.R_below (by (with_reducible repeat (first | apply Kd.R_alloc | apply Kd.R_drewN | apply Kd.R_drew)); exact (Kd.R_mono (Kd.R_far (p := ⟨gb598, 1, none⟩) (Kd.R_far (p := ⟨gb598, 0, none⟩) (Kd.R_types HO_570001.out BK598.out (by decide)) (fun _ hk => hk.2) (.int .i64 t593)) (fun _ hk => hk.2) (.slice Ao78 t594.length co78)) (fun _ h_ => h_.1))) hb); have n1_ := Aside0.mk (Kd.R_below (by (with_reducible repeat (first | apply Kd.R_alloc | apply Kd.R_drewN | apply Kd.R_drew)); exact (Kd.R_mono (Kd.R_far (p := ⟨gb598, 1, none⟩) (Kd.R_far (p := ⟨gb598, 0, none⟩) (Kd.R_types HO_579001.out BK598.out (by decide)) (fun _ hk => hk.2) (.int .i64 t593)) (fun _ hk => hk.2) (.slice Ao78 t594.length co78)) (fun _ h_ => h_.1))) hb); have n2_ := Aside0.mk (Kd.R_below (by (with_reducible repeat (first | apply Kd.R_alloc | apply Kd.R_drewN | apply Kd.R_drew)); exact (Kd.R_mono (Kd.R_far (p := ⟨gb598, 1, none⟩) (Kd.R_far (p := ⟨gb598, 0, none⟩) (Kd.R_types HO592.out BK598.out (by decide)) (fun _ hk => hk.2) (.int .i64 t593)) (fun _ hk => hk.2) (.slice Ao78 t594.length co78)) (fun _ h_ => h_.1))) hb); have n3_ := Aside0.mk (Kd.R_below (by (with_reducible repeat (first | apply Kd.R_alloc | apply Kd.R_drewN | apply Kd.R_drew)); exact (Kd.R_mono (Kd.R_far (p := ⟨gb598, 1, none⟩) (Kd.R_far (p := ⟨gb598, 0, none⟩) (Kd.R_types HO596.out BK598.out (by decide)) (fun _ hk => hk.2) (.int .i64 t593)) (fun _ hk => hk.2) (.slice Ao78 t594.length co78)) (fun _ h_ => h_.1))) hb); have n4_ := Aside0.mk (blk_below (g := gb569) (o := .cells #[.int .i64 t564, .slice Ao15 t565.length co15] 47 (0, 0)) (by (with_reducible repeat (first | refine blk_drewN ?_ _ | refine blk_drew ?_ | refine blk_alloc ?_ _)); refine blk_far ?_ NB569_598.out _; (with_reducible repeat (first | refine blk_drewN ?_ _ | refine blk_drew ?_ | refine blk_alloc ?_ _)); refine blk_far ?_ NB569_598.out _; (with_reducible repeat (first | refine blk_drewN ?_ _ | refine blk_drew ?_ | refine blk_alloc ?_ _)); exact BK569.out) hb); have n5_ := Aside0.mk (blk_below (g := gb578) (o := .cells #[.int .i64 t573, .slice Ao22 t574.length co22] 47 (0, 0)) (by (with_reducible repeat (first | refine blk_drewN ?_ _ | refine blk_drew ?_ | refine blk_alloc ?_ _)); refine blk_far ?_ NB578_598.out _; (with_reducible repeat (first | refine blk_drewN ?_ _ | refine blk_drew ?_ | refine blk_alloc ?_ _)); refine blk_far ?_ NB578_598.out _; (with_reducible repeat (first | refine blk_drewN ?_ _ | refine blk_drew ?_ | refine blk_alloc ?_ _)); exact BK578.out) hb); have n6_ := Aside0.mk (blk_below (g := gb598) (o := .cells #[.int .i64 t593, .slice Ao78 t594.length co78] 47 (0, 0)) (by (with_reducible repeat (first | refine blk_drewN ?_ _ | refine blk_drew ?_ | refine blk_alloc ?_ _)); refine blk_put (cs := #[.int .i64 t593, .slice none 0 0]) ?_ 1 _ rfl; (with_reducible repeat (first | refine blk_drewN ?_ _ | refine blk_drew ?_ | refine blk_alloc ?_ _)); refine blk_put (cs := #[.int .i64 0, .slice none 0 0]) ?_ 0 _ rfl; (with_reducible repeat (first | refine blk_drewN ?_ _ | refine blk_drew ?_ | refine blk_alloc ?_ _)); exact BK598.out) hb); have n7_ := Aside0.mk (below_step (by repeat (first | (with_reducible first | exact HB.out | apply below_alloc | apply pw_below_drewN | apply below_drew1 | refine below_set ?_ GE569.out | refine below_set ?_ GE578.out | refine below_set ?_ GE598.out) | exact HB.out)) hb); clear HO_570001; clear HO_579001; clear HO592; clear HO596; clear BK569; clear BK578; clear BK598; clear HB; have HO_570001 := n0_; have HO_579001 := n1_; have HO592 := n2_; have HO596 := n3_; have BK569 := n4_; have BK578 := n5_; have BK598 := n6_; have HB := n7_; clear n0_ n1_ n2_ n3_ n4_ n5_ n6_ n7_; (try clear hb); (try clear hb2); (try clear hk); (try clear hi)))
                          go_meet
                          case rel => exact ⟨_, ((t597 != t568)), ea_, H', ⟨by have := HJ8.out; have := HJ37.out; first | omega | exact Nat.le_refl _⟩, ⟨by (with_reducible repeat (first | apply Kd.R_alloc | apply Kd.R_drewN | apply Kd.R_drew)); exact Kd.R_mono HO_570001.out (fun _ hk => ⟨hk.1.1, hk.2⟩)⟩, ⟨by (with_reducible repeat (first | apply Kd.R_alloc | apply Kd.R_drewN | apply Kd.R_drew)); exact Kd.R_mono HO_579001.out (fun _ hk => ⟨hk.1.1, hk.2⟩)⟩, ⟨by (with_reducible repeat (first | apply Kd.R_alloc | apply Kd.R_drewN | apply Kd.R_drew)); exact Kd.R_mono HO596.out (fun _ hk => ⟨hk.1.1.2, hk.1.2⟩)⟩, ⟨by (with_reducible repeat (first | refine blk_drewN ?_ _ | refine blk_drew ?_ | refine blk_alloc ?_ _)); exact BK569.out⟩, ⟨by (with_reducible repeat (first | refine blk_drewN ?_ _ | refine blk_drew ?_ | refine blk_alloc ?_ _)); exact BK578.out⟩, ⟨by (with_reducible repeat (first | refine blk_drewN ?_ _ | refine blk_drew ?_ | refine blk_alloc ?_ _)); exact BK598.out⟩, ⟨by repeat (first | (with_reducible first | exact HB.out | apply below_alloc | apply pw_below_drewN | apply below_drew1 | refine below_set ?_ GE569.out | refine below_set ?_ GE578.out | refine below_set ?_ GE598.out) | exact HB.out)⟩⟩
                        · replace c80 := Bool.eq_false_iff.mpr c80
                          subst c80
                          have H1 : (laws_FnExactMomentsOfSteps.j2 kj37 t587 true t573 t588) = some r := by rw [if_neg (show ¬ (false = true) by decide)] at H; exact H
                          clear H
                          have H := H1
                          clear H1
                          have H' := Aside0.mk H
                          clear H
                          have hnb87 := NB598_569.out
                          have hnc87 := NB569_598.out
                          have hnb88 := NB598_578.out
                          have hnc88 := NB578_598.out
                          have hcz89_0 : w74.cell? ⟨gb598, 0, none⟩ = some (.int .i64 0) := (blk_cell BK598.out 0).trans rfl
                          have hcz89_1 : w74.cell? ⟨gb598, 1, none⟩ = some (.slice none 0 0) := (blk_cell BK598.out 1).trans rfl
                          have hfz89_0 := blk_frozen BK598.out 0
                          have hfz89_1 := blk_frozen BK598.out 1
                          have hnb90 := NB569_578.out
                          have hnc90 := NB578_569.out
                          have hcz91_0 : w74.cell? ⟨gb569, 0, none⟩ = some (.int .i64 t564) := (blk_cell BK569.out 0).trans rfl
                          have hcz91_1 : w74.cell? ⟨gb569, 1, none⟩ = some (.slice Ao15 t565.length co15) := (blk_cell BK569.out 1).trans rfl
                          have hfz91_0 := blk_frozen BK569.out 0
                          have hfz91_1 := blk_frozen BK569.out 1
                          go_wp2_with (first | ((with_reducible refine gate_callee (f := 31) rfl ?_); refine goesM_ (some 88) rfl rfl Try.func31 #[.agg #[.int .i64 t593, .slice Ao78 t594.length co78], .agg #[.int .i64 t564, .slice Ao15 t565.length co15]] rfl ?_; (with_reducible refine (laws_eqMoments.calls kj37 t593 _ _ t594 t564 _ _ t565 false _ ?side1 ?side2 ?side3 ?side4 A79.out).mono ?_); (case side1 => refine (Kd.R_reads' (e := 2) (base := w.heap.size) (ok := fun k_ => (((True ∧ some k_ ≠ (.slice Ao15 t565.length co15 : Value).ownBlock) ∧ some k_ ≠ (.slice Ao22 t574.length co22 : Value).ownBlock) ∧ some k_ ≠ (.slice Ao72 t590.length co72 : Value).ownBlock)) (n := t594.length) (c := co78) ?_).2.2; exact (by (with_reducible repeat (first | apply Kd.R_alloc | apply Kd.R_drewN | apply Kd.R_drew)); exact (Kd.R_mono (Kd.R_far (p := ⟨gb598, 1, none⟩) (Kd.R_far (p := ⟨gb598, 0, none⟩) (Kd.R_types HO596.out BK598.out (by decide)) (fun _ hk => hk.2) (.int .i64 t593)) (fun _ hk => hk.2) (.slice Ao78 t594.length co78)) (fun _ h_ => h_.1)))); (case side2 => exact (Kd.R_reads' HO596.out).2.1); (case side3 => refine (Kd.R_reads' (e := 2) (base := w.heap.size) (ok := fun k_ => ((some k_ ≠ (.slice Ao22 t574.length co22 : Value).ownBlock ∧ some k_ ≠ (.slice Ao72 t590.length co72 : Value).ownBlock) ∧ some k_ ≠ (.slice Ao78 t594.length co78 : Value).ownBlock)) (n := t565.length) (c := co15) ?_).2.2; exact (by (with_reducible repeat (first | apply Kd.R_alloc | apply Kd.R_drewN | apply Kd.R_drew)); exact (Kd.R_mono (Kd.R_far (p := ⟨gb598, 1, none⟩) (Kd.R_far (p := ⟨gb598, 0, none⟩) (Kd.R_types HO_570001.out BK598.out (by decide)) (fun _ hk => hk.2) (.int .i64 t593)) (fun _ hk => hk.2) (.slice Ao78 t594.length co78)) (fun _ h_ => h_.1)))); (case side4 => exact (Kd.R_reads' HO_570001.out).2.1); rintro e w92 ⟨rfl, hb⟩; refine ⟨_, rfl, ?_⟩; have n0_ := Aside0.mk (Kd.R_below (by (with_reducible repeat (first | apply Kd.R_alloc | apply Kd.R_drewN | apply Kd.R_drew)); exact (Kd.R_mono (Kd.R_far (p := ⟨gb598, 1, none⟩) (Kd.R_far (p := ⟨gb598, 0, none⟩) (Kd.R_types HO_570001.out BK598.out (by decide)) (fun _ hk => hk.2) (.int .i64 t593)) (fun _ hk => hk.2) (.slice Ao78 t594.length co78)) (fun _ h_ => h_.1))) hb); have n1_ := Aside0.mk (Kd.R_below (by (with_reducible repeat (first | apply Kd.R_alloc | apply Kd.R_drewN | apply Kd.R_drew)); exact (Kd.R_mono (Kd.R_far (p := ⟨gb598, 1, none⟩) (Kd.R_far (p := ⟨gb598, 0, none⟩) (Kd.R_types HO_579001.out BK598.out (by decide)) (fun _ hk => hk.2) (.int .i64 t593)) (fun _ hk => hk.2) (.slice Ao78 t594.length co78)) (fun _ h_ => h_.1))) hb); have n2_ := Aside0.mk (Kd.R_below (by (with_reducible repeat (first | apply Kd.R_alloc | apply Kd.R_drewN | apply Kd.R_drew)); exact (Kd.R_mono (Kd.R_far (p := ⟨gb598, 1, none⟩) (Kd.R_far (p := ⟨gb598, 0, none⟩) (Kd.R_types HO592.out BK598.out (by decide)) (fun _ hk => hk.2) (.int .i64 t593)) (fun _ hk => hk.2) (.slice Ao78 t594.length co78)) (fun _ h_ => h_.1))) hb); have n3_ := Aside0.mk (Kd.R_below (by (with_reducible repeat (first | apply Kd.R_alloc | apply Kd.R_drewN | apply Kd.R_drew)); exact (Kd.R_mono (Kd.R_far (p := ⟨gb598, 1, none⟩) (Kd.R_far (p := ⟨gb598, 0, none⟩) (Kd.R_types HO596.out BK598.out (by decide)) (fun _ hk => hk.2) (.int .i64 t593)) (fun _ hk => hk.2) (.slice Ao78 t594.length co78)) (fun _ h_ => h_.1))) hb); have n4_ := Aside0.mk (blk_below (g := gb569) (o := .cells #[.int .i64 t564, .slice Ao15 t565.length co15] 47 (0, 0)) (by (with_reducible repeat (first | refine blk_drewN ?_ _ | refine blk_drew ?_ | refine blk_alloc ?_ _)); refine blk_far ?_ NB569_598.out _; (with_reducible repeat (first | refine blk_drewN ?_ _ | refine blk_drew ?_ | refine blk_alloc ?_ _)); refine blk_far ?_ NB569_598.out _; (with_reducible repeat (first | refine blk_drewN ?_ _ | refine blk_drew ?_ | refine blk_alloc ?_ _)); exact BK569.out) hb); have n5_ := Aside0.mk (blk_below (g := gb578) (o := .cells #[.int .i64 t573, .slice Ao22 t574.length co22] 47 (0, 0)) (by (with_reducible repeat (first | refine blk_drewN ?_ _ | refine blk_drew ?_ | refine blk_alloc ?_ _)); refine blk_far ?_ NB578_598.out _; (with_reducible repeat (first | refine blk_drewN ?_ _ | refine blk_drew ?_ | refine blk_alloc ?_ _)); refine blk_far ?_ NB578_598.out _; (with_reducible repeat (first | refine blk_drewN ?_ _ | refine blk_drew ?_ | refine blk_alloc ?_ _)); exact BK578.out) hb); have n6_ := Aside0.mk (blk_below (g := gb598) (o := .cells #[.int .i64 t593, .slice Ao78 t594.length co78] 47 (0, 0)) (by (with_reducible repeat (first | refine blk_drewN ?_ _ | refine blk_drew ?_ | refine blk_alloc ?_ _)); refine blk_put (cs := #[.int .i64 t593, .slice none 0 0]) ?_ 1 _ rfl; (with_reducible repeat (first | refine blk_drewN ?_ _ | refine blk_drew ?_ | refine blk_alloc ?_ _)); refine blk_put (cs := #[.int .i64 0, .slice none 0 0]) ?_ 0 _ rfl; (with_reducible repeat (first | refine blk_drewN ?_ _ | refine blk_drew ?_ | refine blk_alloc ?_ _)); exact BK598.out) hb); have n7_ := Aside0.mk (below_step (by repeat (first | (with_reducible first | exact HB.out | apply below_alloc | apply pw_below_drewN | apply below_drew1 | refine below_set ?_ GE569.out | refine below_set ?_ GE578.out | refine below_set ?_ GE598.out) | exact HB.out)) hb); clear HO_570001; clear HO_579001; clear HO592; clear HO596; clear BK569; clear BK578; clear BK598; clear HB; have HO_570001 := n0_; have HO_579001 := n1_; have HO592 := n2_; have HO596 := n3_; have BK569 := n4_; have BK578 := n5_; have BK598 := n6_; have HB := n7_; clear n0_ n1_ n2_ n3_ n4_ n5_ n6_ n7_; (try clear hb); (try clear hb2); (try clear hk); (try clear hi)))
                          go_meet
                          case rel => exact ⟨_, (true), ea_, H', ⟨by have := HJ8.out; have := HJ37.out; first | omega | exact Nat.le_refl _⟩, ⟨by (with_reducible repeat (first | apply Kd.R_alloc | apply Kd.R_drewN | apply Kd.R_drew)); exact Kd.R_mono HO_570001.out (fun _ hk => ⟨hk.1.1, hk.2⟩)⟩, ⟨by (with_reducible repeat (first | apply Kd.R_alloc | apply Kd.R_drewN | apply Kd.R_drew)); exact Kd.R_mono HO_579001.out (fun _ hk => ⟨hk.1.1, hk.2⟩)⟩, ⟨by (with_reducible repeat (first | apply Kd.R_alloc | apply Kd.R_drewN | apply Kd.R_drew)); exact Kd.R_mono HO596.out (fun _ hk => ⟨hk.1.1.2, hk.1.2⟩)⟩, ⟨by (with_reducible repeat (first | refine blk_drewN ?_ _ | refine blk_drew ?_ | refine blk_alloc ?_ _)); exact BK569.out⟩, ⟨by (with_reducible repeat (first | refine blk_drewN ?_ _ | refine blk_drew ?_ | refine blk_alloc ?_ _)); exact BK578.out⟩, ⟨by (with_reducible repeat (first | refine blk_drewN ?_ _ | refine blk_drew ?_ | refine blk_alloc ?_ _)); exact BK598.out⟩, ⟨by repeat (first | (with_reducible first | exact HB.out | apply below_alloc | apply pw_below_drewN | apply below_drew1 | refine below_set ?_ GE569.out | refine below_set ?_ GE578.out | refine below_set ?_ GE598.out) | exact HB.out)⟩⟩
                      case rest =>
                        clear HC65
                        try clear c1
                        try clear c2
                        try clear p2
                        try clear c3
                        try clear c4
                        try clear c4b0
                        try clear c4b1
                        try clear c5
                        try clear c6
                        try clear c7
                        try clear c8
                        try clear c9
                        try clear c10
                        try clear c13
                        try clear c14
                        try clear c20
                        try clear c24
                        try clear c25
                        try clear c29
                        try clear c31
                        try clear c33
                        try clear c36
                        try clear c37
                        try clear c38
                        try clear c39
                        try clear c42
                        try clear c42b0
                        try clear c44
                        try clear c45
                        try clear c49
                        try clear c53
                        try clear c56
                        try clear c56b0
                        try clear c57
                        try clear c62
                        try clear c62b0
                        try clear c62b1
                        try clear c66
                        try clear c75
                        try clear c76
                        try clear c80
                        try clear c81
                        try clear c82
                        try clear c84
                        try clear c87
                        try clear c88
                        try clear c90
                        try clear hcz14_0
                        try clear hcz14_1
                        try clear hcz21_0
                        try clear hcz21_1
                        try clear hcz26_0
                        try clear hcz26_1
                        try clear hcz27_0
                        try clear hcz27_1
                        try clear hcz30_0
                        try clear hcz30_1
                        try clear hcz31_0
                        try clear hcz31_1
                        try clear hcz46_0
                        try clear hcz46_1
                        try clear hcz47_0
                        try clear hcz47_1
                        try clear hcz50_0
                        try clear hcz50_1
                        try clear hcz51_0
                        try clear hcz51_1
                        try clear hcz58_0
                        try clear hcz58_1
                        try clear hcz60_0
                        try clear hcz60_1
                        try clear hcz67_0
                        try clear hcz67_1
                        try clear hcz69_0
                        try clear hcz69_1
                        try clear hcz77_0
                        try clear hcz77_1
                        try clear hcz83_0
                        try clear hcz83_1
                        try clear hcz85_0
                        try clear hcz85_1
                        try clear hcz89_0
                        try clear hcz89_1
                        try clear hcz91_0
                        try clear hcz91_1
                        try clear hfz14_0
                        try clear hfz14_1
                        try clear hfz21_0
                        try clear hfz21_1
                        try clear hfz26_0
                        try clear hfz26_1
                        try clear hfz27_0
                        try clear hfz27_1
                        try clear hfz30_0
                        try clear hfz30_1
                        try clear hfz31_0
                        try clear hfz31_1
                        try clear hfz46_0
                        try clear hfz46_1
                        try clear hfz47_0
                        try clear hfz47_1
                        try clear hfz50_0
                        try clear hfz50_1
                        try clear hfz51_0
                        try clear hfz51_1
                        try clear hfz58_0
                        try clear hfz58_1
                        try clear hfz60_0
                        try clear hfz60_1
                        try clear hfz67_0
                        try clear hfz67_1
                        try clear hfz69_0
                        try clear hfz69_1
                        try clear hfz77_0
                        try clear hfz77_1
                        try clear hfz83_0
                        try clear hfz83_1
                        try clear hfz85_0
                        try clear hfz85_1
                        try clear hfz89_0
                        try clear hfz89_1
                        try clear hfz91_0
                        try clear hfz91_1
                        try clear p2
                        obtain ⟨kq, x94_64, rfl, HA, HJ64, HO_570001, HO_579001, HO_599001, BK569, BK578, BK598, HB⟩ := hcut
                        have hl579001_64 := (Kd.R_reads' HO_579001.out).1
                        rw [hl579001_64] at HO_579001
                        (try simp only [hl579001_64])
                        (try simp only [hl579001_64] at BK569)
                        (try simp only [hl579001_64] at BK578)
                        (try simp only [hl579001_64] at BK598)
                        (try simp only [hl579001_64] at HO_570001)
                        (try simp only [hl579001_64] at HO_599001)
                        cases kq with
                        | zero => exact absurd HA.out (by simp [laws_FnExactMomentsOfSteps.j2])
                        | succ kj64 =>
                          have H := HA.out
                          clear HA
                          simp only [laws_FnExactMomentsOfSteps.j2] at H
                          by_cases c93 : x94_64 = true
                          · subst c93
                            have H1 : (some false) = some r := by rw [if_pos rfl] at H; exact H
                            clear H
                            have H := H1
                            clear H1
                            obtain rfl := Option.some.inj H
                            go_wp2
                            go_ret
                            exact ⟨by first | rfl | (simp [errW_none, errW_some] <;> rfl) | (simp [*, errW_none, errW_some] <;> rfl), by repeat (first | (with_reducible first | exact HB.out | apply below_alloc | apply pw_below_drewN | apply below_drew1 | refine below_set ?_ GE569.out | refine below_set ?_ GE578.out | refine below_set ?_ GE598.out) | exact HB.out)⟩
                          · replace c93 := Bool.eq_false_iff.mpr c93
                            subst c93
                            have H1 : ((laws_heldMoments.f kj64 t573 t588 1).bind fun t600 => (if t600 < 0 then (some false) else (if t600 = t587 then (some true) else (some false)))) = some r := by rw [if_neg (show ¬ (false = true) by decide)] at H; exact H
                            clear H
                            have H := H1
                            clear H1
                            replace H := Option.bind_eq_some_iff.mp H
                            obtain ⟨t600, A940, H⟩ := H
                            have A94 := Aside0.mk A940
                            clear A940
                            by_cases c95 : t600 < 0
                            · rw [if_pos c95] at H
                              have c95b0 : decide (t600 < 0) = true := decide_eq_true c95
                              clear c95
                              obtain rfl := Option.some.inj H
                              have hnb96 := NB578_569.out
                              have hnc96 := NB569_578.out
                              have hnb97 := NB578_598.out
                              have hnc97 := NB598_578.out
                              have hcz98_0 : wc.cell? ⟨gb578, 0, none⟩ = some (.int .i64 t573) := (blk_cell BK578.out 0).trans rfl
                              have hcz98_1 : wc.cell? ⟨gb578, 1, none⟩ = some (.slice Ao22 t588.length co22) := (blk_cell BK578.out 1).trans rfl
                              have hfz98_0 := blk_frozen BK578.out 0
                              have hfz98_1 := blk_frozen BK578.out 1
                              go_wp2_with (first | ((with_reducible refine gate_callee (f := 39) rfl ?_); refine goesM_ (some 97) rfl rfl Try.func39 #[.agg #[.int .i64 t573, .slice Ao22 t588.length co22], .int .i64 1] rfl ?_; (with_reducible refine (laws_heldMoments.calls kj64 t573 _ _ t588 1 t600 _ ?side1 ?side2 A94.out).mono ?_); (case side1 => exact cs ((Kd.R_reads' HO_579001.out).2.2)); (case side2 => exact (Kd.R_reads' HO_579001.out).2.1); rintro e w99 ⟨rfl, hb⟩; refine ⟨_, rfl, ?_⟩; have n0_ := Aside0.mk (Kd.R_below (rs HO_570001) hb); have n1_ := Aside0.mk (Kd.R_below (rs HO_579001) hb); have n2_ := Aside0.mk (Kd.R_below (rs HO_599001) hb); have n3_ := Aside0.mk (blk_below (g := gb569) (o := .cells #[.int .i64 t564, .slice Ao15 t565.length co15] 47 (0, 0)) (by (with_reducible repeat (first | refine blk_drewN ?_ _ | refine blk_drew ?_ | refine blk_alloc ?_ _)); exact BK569.out) hb); have n4_ := Aside0.mk (blk_below (g := gb578) (o := .cells #[.int .i64 t573, .slice Ao22 t588.length co22] 47 (0, 0)) (by (with_reducible repeat (first | refine blk_drewN ?_ _ | refine blk_drew ?_ | refine blk_alloc ?_ _)); exact BK578.out) hb); have n5_ := Aside0.mk (blk_below (g := gb598) (o := .cells #[.int .i64 t593, .slice Ao78 t594.length co78] 47 (0, 0)) (by (with_reducible repeat (first | refine blk_drewN ?_ _ | refine blk_drew ?_ | refine blk_alloc ?_ _)); exact BK598.out) hb); have n6_ := Aside0.mk (below_step (by repeat (first | (with_reducible first | exact HB.out | apply below_alloc | apply pw_below_drewN | apply below_drew1 | refine below_set ?_ GE569.out | refine below_set ?_ GE578.out | refine below_set ?_ GE598.out) | exact HB.out)) hb); clear HO_570001; clear HO_579001; clear HO_599001; clear BK569; clear BK578; clear BK598; clear HB; have HO_570001 := n0_; have HO_579001 := n1_; have HO_599001 := n2_; have BK569 := n3_; have BK578 := n4_; have BK598 := n5_; have HB := n6_; clear n0_ n1_ n2_ n3_ n4_ n5_ n6_; (try clear hb); (try clear hb2); (try clear hk); (try clear hi)))
                              go_ret
                              exact ⟨by first | rfl | (simp [errW_none, errW_some] <;> rfl) | (simp [*, errW_none, errW_some] <;> rfl), by repeat (first | (with_reducible first | exact HB.out | apply below_alloc | apply pw_below_drewN | apply below_drew1 | refine below_set ?_ GE569.out | refine below_set ?_ GE578.out | refine below_set ?_ GE598.out) | exact HB.out)⟩
                            · rw [if_neg c95] at H
                              have c95b0 : decide (t600 < 0) = false := decide_eq_false c95
                              clear c95
                              by_cases c100 : t600 = t587
                              · rw [if_pos c100] at H
                                have c100b0 : (t600 == t587) = true := beq_iff_eq.mpr c100
                                have c100b1 : (t600 != t587) = false := bne_eq_false_iff_eq.mpr c100
                                clear c100
                                obtain rfl := Option.some.inj H
                                have hnb101 := NB578_569.out
                                have hnc101 := NB569_578.out
                                have hnb102 := NB578_598.out
                                have hnc102 := NB598_578.out
                                have hcz103_0 : wc.cell? ⟨gb578, 0, none⟩ = some (.int .i64 t573) := (blk_cell BK578.out 0).trans rfl
                                have hcz103_1 : wc.cell? ⟨gb578, 1, none⟩ = some (.slice Ao22 t588.length co22) := (blk_cell BK578.out 1).trans rfl
                                have hfz103_0 := blk_frozen BK578.out 0
                                have hfz103_1 := blk_frozen BK578.out 1
                                go_wp2_with (first | ((with_reducible refine gate_callee (f := 39) rfl ?_); refine goesM_ (some 97) rfl rfl Try.func39 #[.agg #[.int .i64 t573, .slice Ao22 t588.length co22], .int .i64 1] rfl ?_; (with_reducible refine (laws_heldMoments.calls kj64 t573 _ _ t588 1 t600 _ ?side1 ?side2 A94.out).mono ?_); (case side1 => exact cs ((Kd.R_reads' HO_579001.out).2.2)); (case side2 => exact (Kd.R_reads' HO_579001.out).2.1); rintro e w104 ⟨rfl, hb⟩; refine ⟨_, rfl, ?_⟩; have n0_ := Aside0.mk (Kd.R_below (rs HO_570001) hb); have n1_ := Aside0.mk (Kd.R_below (rs HO_579001) hb); have n2_ := Aside0.mk (Kd.R_below (rs HO_599001) hb); have n3_ := Aside0.mk (blk_below (g := gb569) (o := .cells #[.int .i64 t564, .slice Ao15 t565.length co15] 47 (0, 0)) (by (with_reducible repeat (first | refine blk_drewN ?_ _ | refine blk_drew ?_ | refine blk_alloc ?_ _)); exact BK569.out) hb); have n4_ := Aside0.mk (blk_below (g := gb578) (o := .cells #[.int .i64 t573, .slice Ao22 t588.length co22] 47 (0, 0)) (by (with_reducible repeat (first | refine blk_drewN ?_ _ | refine blk_drew ?_ | refine blk_alloc ?_ _)); exact BK578.out) hb); have n5_ := Aside0.mk (blk_below (g := gb598) (o := .cells #[.int .i64 t593, .slice Ao78 t594.length co78] 47 (0, 0)) (by (with_reducible repeat (first | refine blk_drewN ?_ _ | refine blk_drew ?_ | refine blk_alloc ?_ _)); exact BK598.out) hb); have n6_ := Aside0.mk (below_step (by repeat (first | (with_reducible first | exact HB.out | apply below_alloc | apply pw_below_drewN | apply below_drew1 | refine below_set ?_ GE569.out | refine below_set ?_ GE578.out | refine below_set ?_ GE598.out) | exact HB.out)) hb); clear HO_570001; clear HO_579001; clear HO_599001; clear BK569; clear BK578; clear BK598; clear HB; have HO_570001 := n0_; have HO_579001 := n1_; have HO_599001 := n2_; have BK569 := n3_; have BK578 := n4_; have BK598 := n5_; have HB := n6_; clear n0_ n1_ n2_ n3_ n4_ n5_ n6_; (try clear hb); (try clear hb2); (try clear hk); (try clear hi)))
                                go_ret
                                exact ⟨by first | rfl | (simp [errW_none, errW_some] <;> rfl) | (simp [*, errW_none, errW_some] <;> rfl), by repeat (first | (with_reducible first | exact HB.out | apply below_alloc | apply pw_below_drewN | apply below_drew1 | refine below_set ?_ GE569.out | refine below_set ?_ GE578.out | refine below_set ?_ GE598.out) | exact HB.out)⟩
                              · rw [if_neg c100] at H
                                have c100b0 : (t600 == t587) = false := beq_eq_false_iff_ne.mpr c100
                                have c100b1 : (t600 != t587) = true := bne_iff_ne.mpr c100
                                obtain rfl := Option.some.inj H
                                have hnb105 := NB578_569.out
                                have hnc105 := NB569_578.out
                                have hnb106 := NB578_598.out
                                have hnc106 := NB598_578.out
                                have hcz107_0 : wc.cell? ⟨gb578, 0, none⟩ = some (.int .i64 t573) := (blk_cell BK578.out 0).trans rfl
                                have hcz107_1 : wc.cell? ⟨gb578, 1, none⟩ = some (.slice Ao22 t588.length co22) := (blk_cell BK578.out 1).trans rfl
                                have hfz107_0 := blk_frozen BK578.out 0
                                have hfz107_1 := blk_frozen BK578.out 1
                                go_wp2_with (first | ((with_reducible refine gate_callee (f := 39) rfl ?_); refine goesM_ (some 97) rfl rfl Try.func39 #[.agg #[.int .i64 t573, .slice Ao22 t588.length co22], .int .i64 1] rfl ?_; (with_reducible refine (laws_heldMoments.calls kj64 t573 _ _ t588 1 t600 _ ?side1 ?side2 A94.out).mono ?_); (case side1 => exact cs ((Kd.R_reads' HO_579001.out).2.2)); (case side2 => exact (Kd.R_reads' HO_579001.out).2.1); rintro e w108 ⟨rfl, hb⟩; refine ⟨_, rfl, ?_⟩; have n0_ := Aside0.mk (Kd.R_below (rs HO_570001) hb); have n1_ := Aside0.mk (Kd.R_below (rs HO_579001) hb); have n2_ := Aside0.mk (Kd.R_below (rs HO_599001) hb); have n3_ := Aside0.mk (blk_below (g := gb569) (o := .cells #[.int .i64 t564, .slice Ao15 t565.length co15] 47 (0, 0)) (by (with_reducible repeat (first | refine blk_drewN ?_ _ | refine blk_drew ?_ | refine blk_alloc ?_ _)); exact BK569.out) hb); have n4_ := Aside0.mk (blk_below (g := gb578) (o := .cells #[.int .i64 t573, .slice Ao22 t588.length co22] 47 (0, 0)) (by (with_reducible repeat (first | refine blk_drewN ?_ _ | refine blk_drew ?_ | refine blk_alloc ?_ _)); exact BK578.out) hb); have n5_ := Aside0.mk (blk_below (g := gb598) (o := .cells #[.int .i64 t593, .slice Ao78 t594.length co78] 47 (0, 0)) (by (with_reducible repeat (first | refine blk_drewN ?_ _ | refine blk_drew ?_ | refine blk_alloc ?_ _)); exact BK598.out) hb); have n6_ := Aside0.mk (below_step (by repeat (first | (with_reducible first | exact HB.out | apply below_alloc | apply pw_below_drewN | apply below_drew1 | refine below_set ?_ GE569.out | refine below_set ?_ GE578.out | refine below_set ?_ GE598.out) | exact HB.out)) hb); clear HO_570001; clear HO_579001; clear HO_599001; clear BK569; clear BK578; clear BK598; clear HB; have HO_570001 := n0_; have HO_579001 := n1_; have HO_599001 := n2_; have BK569 := n3_; have BK578 := n4_; have BK598 := n5_; have HB := n6_; clear n0_ n1_ n2_ n3_ n4_ n5_ n6_; (try clear hb); (try clear hb2); (try clear hk); (try clear hi)))
                                go_ret
                                exact ⟨by first | rfl | (simp [errW_none, errW_some] <;> rfl) | (simp [*, errW_none, errW_some] <;> rfl), by repeat (first | (with_reducible first | exact HB.out | apply below_alloc | apply pw_below_drewN | apply below_drew1 | refine below_set ?_ GE569.out | refine below_set ?_ GE578.out | refine below_set ?_ GE598.out) | exact HB.out)⟩
                    · rw [if_neg c62] at H
                      have c62b0 : (t589 == t587) = false := beq_eq_false_iff_ne.mpr c62
                      have c62b1 : (t589 != t587) = true := bne_iff_ne.mpr c62
                      obtain rfl := Option.some.inj H
                      have hnb109 := NB578_569.out
                      have hnc109 := NB569_578.out
                      have hcz110_0 : wc.cell? ⟨gb578, 0, none⟩ = some (.int .i64 t573) := (blk_cell BK578.out 0).trans rfl
                      have hcz110_1 : wc.cell? ⟨gb578, 1, none⟩ = some (.slice Ao22 t574.length co22) := (blk_cell BK578.out 1).trans rfl
                      have hfz110_0 := blk_frozen BK578.out 0
                      have hfz110_1 := blk_frozen BK578.out 1
                      go_wp2_with (first | ((with_reducible refine gate_callee (f := 38) rfl ?_); refine goesM_ (some 69) rfl rfl Try.func38 #[.agg #[.int .i64 t573, .slice Ao22 t574.length co22], .int .i64 1] rfl ?_; (with_reducible refine (laws_markMoments.calls kj37 t573 (fun k_ => some k_ = (.slice Ao22 t574.length co22 : Value).ownBlock) (.slice Ao22 t574.length co22) t574 1 t587 t588 w _ ?side1 ?side2 A54.out).mono ?_); (case side1 => repeat (first | (with_reducible first | exact HB.out | apply below_alloc | apply pw_below_drewN | apply below_drew1 | refine below_set ?_ GE569.out | refine below_set ?_ GE578.out) | exact HB.out)); (case side2 => exact Kd.R_tight rfl HO_579001.out); rintro e w111 ⟨rfl, hy0, hb, hkp⟩; refine ⟨_, rfl, ?_⟩; have n0_ := Aside0.mk (Kd.R_mono (ok' := fun k_ => some k_ ≠ (.slice Ao22 t574.length co22 : Value).ownBlock) (Kd.R_keptB (HO_570001.out) hkp (fun k_ hk_ hs_ => (hk_) hs_)) (fun k_ hk_ => hk_.1)); have n1_ := Aside0.mk (Kd.R_reok rfl hy0 (fun k_ e_ => HO_579001.out.1 k_ e_)); have n2_ := Aside0.mk (blk_kept (by (with_reducible repeat (first | refine blk_drewN ?_ _ | refine blk_drew ?_ | refine blk_alloc ?_ _)); exact BK569.out) hkp (fun hs_ => (fun e_ => (Kd.R_ne HO_579001.out BK569.out (by decide)) e_) hs_)); have n3_ := Aside0.mk (blk_kept (by (with_reducible repeat (first | refine blk_drewN ?_ _ | refine blk_drew ?_ | refine blk_alloc ?_ _)); exact BK578.out) hkp (fun hs_ => (fun e_ => (Kd.R_ne HO_579001.out BK578.out (by decide)) e_) hs_)); have n4_ := Aside0.mk (hb); clear HO_570001; clear HO_579001; clear BK569; clear BK578; clear HB; have HO_570001 := n0_; have HO_579001 := n1_; have BK569 := n2_; have BK578 := n3_; have HB := n4_; clear n0_ n1_ n2_ n3_ n4_; (try clear hb); (try clear hkp); (try clear hy0); have hcz112_0 : w111.cell? ⟨gb578, 0, none⟩ = some (.int .i64 t573) := (blk_cell BK578.out 0).trans rfl; have hcz112_1 : w111.cell? ⟨gb578, 1, none⟩ = some (.slice Ao22 t574.length co22) := (blk_cell BK578.out 1).trans rfl; have hfz112_0 := blk_frozen BK578.out 0; have hfz112_1 := blk_frozen BK578.out 1) | ((with_reducible refine gate_callee (f := 39) rfl ?_); refine goesL_ (some 72) rfl rfl Try.func39 (by kernel_rfl) rfl #[.agg #[.int .i64 t573, .slice Ao22 t588.length co22], .int .i64 1] rfl (by (try simp only [List.map_toArray, List.map_cons, List.map_nil]); first | done | (rw [show t588.length = t574.length from (Kd.R_reads' HO_579001.out).1.symm] <;> rfl) | rfl | (simp only [List.length_drop, List.length_take]; rfl)) ?_; (with_reducible refine (laws_heldMoments.calls kj37 t573 _ _ t588 1 t589 _ ?side1 ?side2 A55.out).mono ?_); (case side1 => exact cs ((Kd.R_reads' HO_579001.out).2.2)); (case side2 => rw [show t588.length = t574.length from (Kd.R_reads' HO_579001.out).1.symm]; exact (Kd.R_reads' HO_579001.out).2.1); rintro e w113 ⟨rfl, hb⟩; refine ⟨_, rfl, ?_⟩; have n0_ := Aside0.mk (Kd.R_below (rs HO_570001) hb); have n1_ := Aside0.mk (Kd.R_below (rs HO_579001) hb); have n2_ := Aside0.mk (blk_below (g := gb569) (o := .cells #[.int .i64 t564, .slice Ao15 t565.length co15] 47 (0, 0)) (by (with_reducible repeat (first | refine blk_drewN ?_ _ | refine blk_drew ?_ | refine blk_alloc ?_ _)); exact BK569.out) hb); have n3_ := Aside0.mk (blk_below (g := gb578) (o := .cells #[.int .i64 t573, .slice Ao22 t574.length co22] 47 (0, 0)) (by (with_reducible repeat (first | refine blk_drewN ?_ _ | refine blk_drew ?_ | refine blk_alloc ?_ _)); exact BK578.out) hb); have n4_ := Aside0.mk (below_step (by repeat (first | (with_reducible first | exact HB.out | apply below_alloc | apply pw_below_drewN | apply below_drew1 | refine below_set ?_ GE569.out | refine below_set ?_ GE578.out) | exact HB.out)) hb); clear HO_570001; clear HO_579001; clear BK569; clear BK578; clear HB; have HO_570001 := n0_; have HO_579001 := n1_; have BK569 := n2_; have BK578 := n3_; have HB := n4_; clear n0_ n1_ n2_ n3_ n4_; (try clear hb); (try clear hb2); (try clear hk); (try clear hi)))
                      go_ret
                      exact ⟨by first | rfl | (simp [errW_none, errW_some] <;> rfl) | (simp [*, errW_none, errW_some] <;> rfl), by repeat (first | (with_reducible first | exact HB.out | apply below_alloc | apply pw_below_drewN | apply below_drew1 | refine below_set ?_ GE569.out | refine below_set ?_ GE578.out) | exact HB.out)⟩
          · replace c36 := Bool.eq_false_iff.mpr c36
            subst c36
            have H1 : (some false) = some r := by rw [if_neg (show ¬ (false = true) by decide)] at H; exact H
            clear H
            have H := H1
            clear H1
            obtain rfl := Option.some.inj H
            go_wp2_with (first | ((with_reducible refine gate_callee (f := 10) rfl ?_); refine goesM_ (some 48) rfl rfl Try.func10 #[.slice A1 l1.length c1] rfl ?_; (with_reducible refine (laws_toInt64S.calls kj8 _ _ l1 t580 _ ?side1 ?side2 A34.out).mono ?_); (case side1 => exact cs ((Kd.C_below HR1.out HB.out))); (case side2 => exact HC1.out); rintro e w114 ⟨v581, rfl, ho0, hb⟩; refine ⟨_, rfl, ?_⟩; have n0_ := Aside0.mk (Kd.R_elder' (rs HO_9) (Kd.R_base ho0) hb); have n1_ := Aside0.mk (Kd.R_elder' (rs HO_570001) (Kd.R_base ho0) hb); have n2_ := Aside0.mk (Kd.R_elder' (rs HO_579001) (Kd.R_base ho0) hb); have n3_ := Aside0.mk (Kd.R_lower (Kd.R_new' (Kd.R_new' (Kd.R_new' ho0 (Kd.R_lt (rs HO_9))) (Kd.R_lt (rs HO_570001))) (Kd.R_lt (rs HO_579001))) (below_size (by repeat (first | (with_reducible first | exact HB.out | apply below_alloc | apply pw_below_drewN | apply below_drew1 | refine below_set ?_ GE569.out | refine below_set ?_ GE578.out) | exact HB.out)))); have n4_ := Aside0.mk (blk_below (g := gb569) (o := .cells #[.int .i64 t564, .slice Ao15 t565.length co15] 47 (0, 0)) (by (with_reducible repeat (first | refine blk_drewN ?_ _ | refine blk_drew ?_ | refine blk_alloc ?_ _)); exact BK569.out) hb); have n5_ := Aside0.mk (blk_below (g := gb578) (o := .cells #[.int .i64 t573, .slice Ao22 t574.length co22] 47 (0, 0)) (by (with_reducible repeat (first | refine blk_drewN ?_ _ | refine blk_drew ?_ | refine blk_alloc ?_ _)); exact BK578.out) hb); have n6_ := Aside0.mk (below_step (by repeat (first | (with_reducible first | exact HB.out | apply below_alloc | apply pw_below_drewN | apply below_drew1 | refine below_set ?_ GE569.out | refine below_set ?_ GE578.out) | exact HB.out)) hb); clear HO_9; clear HO_570001; clear HO_579001; clear BK569; clear BK578; clear HB; have HO_9 := n0_; have HO_570001 := n1_; have HO_579001 := n2_; have HO582 := n3_; have BK569 := n4_; have BK578 := n5_; have HB := n6_; clear n0_ n1_ n2_ n3_ n4_ n5_ n6_; (try clear hb); (try clear hb2); (try clear hk); (try clear hi); (try clear ho0); obtain ⟨Ao115, co115, eo115⟩ := Kd.R_slice HO582.out; subst eo115) | ((with_reducible refine gate_callee (f := 13) rfl ?_); refine goesM_ (some 49) rfl rfl Try.func13 #[.slice Ao17 t570.length co17, .slice Ao115 t580.length co115] rfl ?_; (with_reducible refine (laws_eqInt64S.calls kj8 _ _ t570 _ _ t580 false _ ?side1 ?side2 ?side3 ?side4 A35.out).mono ?_); (case side1 => exact cs ((Kd.R_reads' HO_9.out).2.2)); (case side2 => exact (Kd.R_reads' HO_9.out).2.1); (case side3 => exact cs ((Kd.R_reads' HO582.out).2.2)); (case side4 => exact (Kd.R_reads' HO582.out).2.1); rintro e w' ⟨rfl, ⟨nd, rfl⟩⟩; refine ⟨_, rfl, ?_⟩))
            go_ret
            exact ⟨by first | rfl | (simp [errW_none, errW_some] <;> rfl) | (simp [*, errW_none, errW_some] <;> rfl), by repeat (first | (with_reducible first | exact HB.out | apply below_alloc | apply pw_below_drewN | apply below_drew1 | refine below_set ?_ GE569.out | refine below_set ?_ GE578.out) | exact HB.out)⟩

/-- THE ONE PURE STATEMENT of laws_FnExactMomentsOfSteps: yours. -/
def laws_FnExactMomentsOfSteps.Pure : Prop := ∀ (a0 : Int) (l1 : List Int) (a2 : Int), (Lit.int .i64 a0).wf = true → l1.length ≤ maxLen → l1.length * 8 ≤ 140737488351232 → (∀ x ∈ l1, (Lit.int .i64 x).wf = true) → (Lit.int .i64 a2).wf = true → ∃ k, laws_FnExactMomentsOfSteps.f k a0 l1 a2 = some true
theorem laws_FnExactMomentsOfSteps.walk (P : laws_FnExactMomentsOfSteps.Pure) (a0 : Int) (a1 : Option Addr) (len1 cap1 : Nat) (z1 : List Int) (a2 : Int) (w : World) (w0 : (Lit.int .i64 a0).wf = true) (w1 : (a1 = none ∧ len1 = 0 ∧ cap1 = 0 ∧ z1 = []) ∨ ∃ x, a1 = some x ∧ len1 ≤ cap1 ∧ cap1 ≤ maxLen ∧ z1.length = cap1 ∧ (∀ i, i < z1.length → w.cell? (x.add i) = some (.int .i64 (z1.getD i 0))) ∧ ∀ n ∈ z1, (Lit.int .i64 n).wf = true) (y1 : len1 * 8 ≤ 140737488351232) (w2 : (Lit.int .i64 a2).wf = true) :
    Calls Try.prog 7 #[.int .i64 a0, .slice a1 len1 cap1, .int .i64 a2] w fun e w' => e = .returned (.bool true) ∧ Below w.heap.size w w' := by
  obtain ⟨l1, rfl, hr1, hm1, hw1, hc1⟩ := ReadsInt.ofRowC w1
  obtain ⟨k, h⟩ := P a0 l1 a2 w0 hm1 y1 hw1 w2
  refine (laws_FnExactMomentsOfSteps.calls k a0 _ _ l1 a2 true w (Kd.C_of_reads (d := (0 : Int)) (h1 := fun _ => rfl) hr1) hc1 h).mono ?_
  rintro e w' ⟨rfl, hd⟩
  exact ⟨rfl, hd⟩

end Go.Proofs.Ytepigphelclpcaa.H
