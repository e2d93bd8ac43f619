/- Joined texts of a claim: the printed functions and what is proved of them. -/
import Derived.Test.YtepigphelclpcaaHx0
import Derived.Test.YtepigphelclpcaaMc2
import Derived.Test.YtepigphelclpcaaMabc1
import Derived.Test.YtepigphelclpcaaMbc1
import Derived.Test.YtepigphelclpcaaMc3
import Derived.Test.YtepigphelclpcaaMc4
-- written by wip/drive.py (the session's own program) over the translation; Lean checks it
namespace Go.Proofs.Ytepigphelclpcaa.H
open Go.RowKit Go.Proofs.YtepigphelclpcaaW.PrintWords Go.Proofs.YtepigphelclpcaaW.PrintLast Go.Proofs.YtepigphelclpcaaW.PrintMore
attribute [local go_sem] max2_int min2_int max_two min_two max_three min_three max_four min_four   -- for this text's walks alone
set_option linter.unusedVariables false
set_option linter.unusedSimpArgs false

/-! ### laws_FnExactJacobiOfSteps: function 3 -/
mutual
def laws_FnExactJacobiOfSteps.j0 : Nat → Int → List Int → Int → List Int → Int → Bool → Int → List Int → List Int → Int → List Int → List Int → Option (Bool)
  | 0, _, _, _, _, _, _, _, _, _, _, _, _ => none
  | k + 1, x0, x1, x6, x7, x9, x41, x197000, x197001, x197002, x209000, x209001, x209002 => if x41 = true then (some false) else ((laws_toInt64S.f k x1).bind fun t210 => ((laws_eqInt64S.f k x7 t210).bind fun t213 => (if t213 = true then ((laws_markInt64S.f k x7 1).bind fun bt214 => (if bt214.1 < 0 then (laws_FnExactJacobiOfSteps.j1 k x0 x1 x6 true x197000 x197001 x197002 x209000 x209001 x209002) else ((laws_eqJacobi.f k x209000 x209001 x209002 x197000 x197001 x197002).bind fun t216 => (if t216 = true then (laws_FnExactJacobiOfSteps.j1 k x0 x1 x6 (x9 != x6) x197000 x197001 x197002 x209000 x209001 x209002) else (laws_FnExactJacobiOfSteps.j1 k x0 x1 x6 true x197000 x197001 x197002 x209000 x209001 x209002))))) else (some false))))
def laws_FnExactJacobiOfSteps.j1 : Nat → Int → List Int → Int → Bool → Int → List Int → List Int → Int → List Int → List Int → Option (Bool)
  | 0, _, _, _, _, _, _, _, _, _, _ => none
  | k + 1, x0, x1, x6, x62, x197000, x197001, x197002, x209000, x209001, x209002 => if x62 = true then (some false) else ((laws_markJacobi.f k x209000 x209001 x209002 1).bind fun bt217 => ((laws_heldJacobi.f k x209000 bt217.2.1 bt217.2.2 1).bind fun t220 => (if t220 < 0 then (some false) else (if t220 = bt217.1 then ((laws_toInt64S.f k x1).bind fun t221 => ((impl_JacobiOfSteps.f k x0 t221).bind fun bt224 => ((laws_eqJacobi.f k bt224.1 bt224.2.1 bt224.2.2.1 x197000 x197001 x197002).bind fun t233 => (if t233 = true then (laws_FnExactJacobiOfSteps.j2 k bt217.1 (bt224.2.2.2 != x6) x209000 bt217.2.1 bt217.2.2) else (laws_FnExactJacobiOfSteps.j2 k bt217.1 true x209000 bt217.2.1 bt217.2.2))))) else (some false)))))
def laws_FnExactJacobiOfSteps.j2 : Nat → Int → Bool → Int → List Int → List Int → Option (Bool)
  | 0, _, _, _, _, _ => none
  | k + 1, x11, x89, x209000, x209001, x209002 => if x89 = true then (some false) else ((laws_heldJacobi.f k x209000 x209001 x209002 1).bind fun t234 => (if t234 < 0 then (some false) else (if t234 = x11 then (some true) else (some false))))
end
def laws_FnExactJacobiOfSteps.f (k : Nat) (a0 : Int) (l1 : List Int) : Option (Bool) := if (l1.length : Int) > 1048576 then (some true) else ((laws_toInt64S.f k l1).bind fun t185 => ((spec_JacobiOfSteps.f k a0 t185).bind fun bt188 => ((laws_toInt64S.f k l1).bind fun t197 => ((impl_JacobiOfSteps.f k a0 t197).bind fun bt200 => ((laws_eqJacobi.f k bt200.1 bt200.2.1 bt200.2.2.1 bt188.1 bt188.2.1 bt188.2.2.1).bind fun t209 => (if t209 = true then (laws_FnExactJacobiOfSteps.j0 k a0 l1 bt188.2.2.2 t197 bt200.2.2.2 (bt200.2.2.2 != bt188.2.2.2) bt188.1 bt188.2.1 bt188.2.2.1 bt200.1 bt200.2.1 bt200.2.2.1) else (laws_FnExactJacobiOfSteps.j0 k a0 l1 bt188.2.2.2 t197 bt200.2.2.2 true bt188.1 bt188.2.1 bt188.2.2.1 bt200.1 bt200.2.1 bt200.2.2.1)))))))
theorem laws_FnExactJacobiOfSteps.mono_l : ∀ k, (∀ y0 y1 y2 y3 y4 y5 y6 y7 y8 y9 y10 y11, LeO (laws_FnExactJacobiOfSteps.j0 k y0 y1 y2 y3 y4 y5 y6 y7 y8 y9 y10 y11) (laws_FnExactJacobiOfSteps.j0 (k + 1) y0 y1 y2 y3 y4 y5 y6 y7 y8 y9 y10 y11)) ∧ (∀ y0 y1 y2 y3 y4 y5 y6 y7 y8 y9, LeO (laws_FnExactJacobiOfSteps.j1 k y0 y1 y2 y3 y4 y5 y6 y7 y8 y9) (laws_FnExactJacobiOfSteps.j1 (k + 1) y0 y1 y2 y3 y4 y5 y6 y7 y8 y9)) ∧ (∀ y0 y1 y2 y3 y4, LeO (laws_FnExactJacobiOfSteps.j2 k y0 y1 y2 y3 y4) (laws_FnExactJacobiOfSteps.j2 (k + 1) y0 y1 y2 y3 y4))
  | 0 => ⟨fun _ _ _ _ _ _ _ _ _ _ _ _ r h => by simp [laws_FnExactJacobiOfSteps.j0] at h, fun _ _ _ _ _ _ _ _ _ _ r h => by simp [laws_FnExactJacobiOfSteps.j1] at h, fun _ _ _ _ _ r h => by simp [laws_FnExactJacobiOfSteps.j2] at h⟩
  | k + 1 => by
    obtain ⟨ih0, ih1, ih2⟩ := laws_FnExactJacobiOfSteps.mono_l k
    refine ⟨?_, ?_, ?_⟩
    · intro y0 y1 y2 y3 y4 y5 y6 y7 y8 y9 y10 y11
      unfold laws_FnExactJacobiOfSteps.j0
      repeat' first
      | (with_reducible exact ih0 _ _ _ _ _ _ _ _ _ _ _ _)
      | (with_reducible exact ih1 _ _ _ _ _ _ _ _ _ _)
      | (with_reducible exact ih2 _ _ _ _ _)
      | (with_reducible exact impl_JacobiOfSteps.mono _ _ _)
      | (with_reducible exact laws_eqInt64S.mono _ _ _)
      | (with_reducible exact laws_eqJacobi.mono _ _ _ _ _ _ _)
      | (with_reducible exact laws_heldJacobi.mono _ _ _ _ _)
      | (with_reducible exact laws_markInt64S.mono _ _ _)
      | (with_reducible exact laws_markJacobi.mono _ _ _ _ _)
      | (with_reducible exact laws_toInt64S.mono _ _)
      | (with_reducible exact spec_JacobiOfSteps.mono _ _ _)
      | (with_reducible exact LeO.refl _)
      | (with_reducible exact LeO.none _)
      | (with_reducible refine LeO.ite ?_ ?_)
      | (with_reducible refine LeO.bind ?_ (fun _ => ?_))
      | exact ih0 _ _ _ _ _ _ _ _ _ _ _ _
      | exact ih1 _ _ _ _ _ _ _ _ _ _
      | exact ih2 _ _ _ _ _
      | exact impl_JacobiOfSteps.mono _ _ _
      | exact laws_eqInt64S.mono _ _ _
      | exact laws_eqJacobi.mono _ _ _ _ _ _ _
      | exact laws_heldJacobi.mono _ _ _ _ _
      | exact laws_markInt64S.mono _ _ _
      | exact laws_markJacobi.mono _ _ _ _ _
      | exact laws_toInt64S.mono _ _
      | exact spec_JacobiOfSteps.mono _ _ _
      | exact LeO.none _
      | refine LeO.ite ?_ ?_
      | refine LeO.bind ?_ (fun _ => ?_)
    · intro y0 y1 y2 y3 y4 y5 y6 y7 y8 y9
      unfold laws_FnExactJacobiOfSteps.j1
      repeat' first
      | (with_reducible exact ih0 _ _ _ _ _ _ _ _ _ _ _ _)
      | (with_reducible exact ih1 _ _ _ _ _ _ _ _ _ _)
      | (with_reducible exact ih2 _ _ _ _ _)
      | (with_reducible exact impl_JacobiOfSteps.mono _ _ _)
      | (with_reducible exact laws_eqInt64S.mono _ _ _)
      | (with_reducible exact laws_eqJacobi.mono _ _ _ _ _ _ _)
      | (with_reducible exact laws_heldJacobi.mono _ _ _ _ _)
      | (with_reducible exact laws_markInt64S.mono _ _ _)
      | (with_reducible exact laws_markJacobi.mono _ _ _ _ _)
      | (with_reducible exact laws_toInt64S.mono _ _)
      | (with_reducible exact spec_JacobiOfSteps.mono _ _ _)
      | (with_reducible exact LeO.refl _)
      | (with_reducible exact LeO.none _)
      | (with_reducible refine LeO.ite ?_ ?_)
      | (with_reducible refine LeO.bind ?_ (fun _ => ?_))
      | exact ih0 _ _ _ _ _ _ _ _ _ _ _ _
      | exact ih1 _ _ _ _ _ _ _ _ _ _
      | exact ih2 _ _ _ _ _
      | exact impl_JacobiOfSteps.mono _ _ _
      | exact laws_eqInt64S.mono _ _ _
      | exact laws_eqJacobi.mono _ _ _ _ _ _ _
      | exact laws_heldJacobi.mono _ _ _ _ _
      | exact laws_markInt64S.mono _ _ _
      | exact laws_markJacobi.mono _ _ _ _ _
      | exact laws_toInt64S.mono _ _
      | exact spec_JacobiOfSteps.mono _ _ _
      | exact LeO.none _
      | refine LeO.ite ?_ ?_
      | refine LeO.bind ?_ (fun _ => ?_)
    · intro y0 y1 y2 y3 y4
      unfold laws_FnExactJacobiOfSteps.j2
      repeat' first
      | (with_reducible exact ih0 _ _ _ _ _ _ _ _ _ _ _ _)
      | (with_reducible exact ih1 _ _ _ _ _ _ _ _ _ _)
      | (with_reducible exact ih2 _ _ _ _ _)
      | (with_reducible exact impl_JacobiOfSteps.mono _ _ _)
      | (with_reducible exact laws_eqInt64S.mono _ _ _)
      | (with_reducible exact laws_eqJacobi.mono _ _ _ _ _ _ _)
      | (with_reducible exact laws_heldJacobi.mono _ _ _ _ _)
      | (with_reducible exact laws_markInt64S.mono _ _ _)
      | (with_reducible exact laws_markJacobi.mono _ _ _ _ _)
      | (with_reducible exact laws_toInt64S.mono _ _)
      | (with_reducible exact spec_JacobiOfSteps.mono _ _ _)
      | (with_reducible exact LeO.refl _)
      | (with_reducible exact LeO.none _)
      | (with_reducible refine LeO.ite ?_ ?_)
      | (with_reducible refine LeO.bind ?_ (fun _ => ?_))
      | exact ih0 _ _ _ _ _ _ _ _ _ _ _ _
      | exact ih1 _ _ _ _ _ _ _ _ _ _
      | exact ih2 _ _ _ _ _
      | exact impl_JacobiOfSteps.mono _ _ _
      | exact laws_eqInt64S.mono _ _ _
      | exact laws_eqJacobi.mono _ _ _ _ _ _ _
      | exact laws_heldJacobi.mono _ _ _ _ _
      | exact laws_markInt64S.mono _ _ _
      | exact laws_markJacobi.mono _ _ _ _ _
      | exact laws_toInt64S.mono _ _
      | exact spec_JacobiOfSteps.mono _ _ _
      | exact LeO.none _
      | refine LeO.ite ?_ ?_
      | refine LeO.bind ?_ (fun _ => ?_)
theorem laws_FnExactJacobiOfSteps.mono : ∀ a0 a1 k, LeO (laws_FnExactJacobiOfSteps.f k a0 a1) (laws_FnExactJacobiOfSteps.f (k + 1) a0 a1) := by
  intro a0 a1 k
  obtain ⟨ih0, ih1, ih2⟩ := laws_FnExactJacobiOfSteps.mono_l k
  unfold laws_FnExactJacobiOfSteps.f
  repeat' first
      | (with_reducible exact ih0 _ _ _ _ _ _ _ _ _ _ _ _)
      | (with_reducible exact ih1 _ _ _ _ _ _ _ _ _ _)
      | (with_reducible exact ih2 _ _ _ _ _)
      | (with_reducible exact impl_JacobiOfSteps.mono _ _ _)
      | (with_reducible exact laws_eqInt64S.mono _ _ _)
      | (with_reducible exact laws_eqJacobi.mono _ _ _ _ _ _ _)
      | (with_reducible exact laws_heldJacobi.mono _ _ _ _ _)
      | (with_reducible exact laws_markInt64S.mono _ _ _)
      | (with_reducible exact laws_markJacobi.mono _ _ _ _ _)
      | (with_reducible exact laws_toInt64S.mono _ _)
      | (with_reducible exact spec_JacobiOfSteps.mono _ _ _)
      | (with_reducible exact LeO.refl _)
      | (with_reducible exact LeO.none _)
      | (with_reducible refine LeO.ite ?_ ?_)
      | (with_reducible refine LeO.bind ?_ (fun _ => ?_))
      | exact ih0 _ _ _ _ _ _ _ _ _ _ _ _
      | exact ih1 _ _ _ _ _ _ _ _ _ _
      | exact ih2 _ _ _ _ _
      | exact impl_JacobiOfSteps.mono _ _ _
      | exact laws_eqInt64S.mono _ _ _
      | exact laws_eqJacobi.mono _ _ _ _ _ _ _
      | exact laws_heldJacobi.mono _ _ _ _ _
      | exact laws_markInt64S.mono _ _ _
      | exact laws_markJacobi.mono _ _ _ _ _
      | exact laws_toInt64S.mono _ _
      | exact spec_JacobiOfSteps.mono _ _ _
      | exact LeO.none _
      | refine LeO.ite ?_ ?_
      | refine LeO.bind ?_ (fun _ => ?_)
set_option maxHeartbeats 8000000 in
set_option maxRecDepth 100000 in
theorem laws_FnExactJacobiOfSteps.calls (k : Nat) (a0 : Int) (A1 : Option Addr) (c1 : Nat) (l1 : List Int) (r : Bool) (w : World) (hr1 : Kd.C (Kd.int .i64) w A1 l1.length l1) (hc1 : l1.length ≤ c1) (h : laws_FnExactJacobiOfSteps.f k a0 l1 = some r) :
    Calls Try.prog 3 #[.int .i64 a0, .slice A1 l1.length c1] w fun e w' => e = .returned (.bool r) ∧ Below w.heap.size w w' := by
  have hu24 := Try.underlying24
  have HR1 := Aside0.mk hr1
  have HC1 := Aside0.mk hc1
  clear hr1 hc1
  have HB := Aside0.mk (Below.refl w.heap.size w)
  have H : (if (l1.length : Int) > 1048576 then (some true) else ((laws_toInt64S.f k l1).bind fun t185 => ((spec_JacobiOfSteps.f k a0 t185).bind fun bt188 => ((laws_toInt64S.f k l1).bind fun t197 => ((impl_JacobiOfSteps.f k a0 t197).bind fun bt200 => ((laws_eqJacobi.f k bt200.1 bt200.2.1 bt200.2.2.1 bt188.1 bt188.2.1 bt188.2.2.1).bind fun t209 => (if t209 = true then (laws_FnExactJacobiOfSteps.j0 k a0 l1 bt188.2.2.2 t197 bt200.2.2.2 (bt200.2.2.2 != bt188.2.2.2) bt188.1 bt188.2.1 bt188.2.2.1 bt200.1 bt200.2.1 bt200.2.2.1) else (laws_FnExactJacobiOfSteps.j0 k a0 l1 bt188.2.2.2 t197 bt200.2.2.2 true bt188.1 bt188.2.1 bt188.2.2.1 bt200.1 bt200.2.1 bt200.2.2.1)))))))) = some r := h
  clear h
  by_cases c3 : (l1.length : Int) > 1048576
  · rw [if_pos c3] at H
    have c3b0 : decide (1048576 < (l1.length : Int)) = true := decide_eq_true c3
    have c3b1 : decide (1048576 < l1.length) = true := decide_eq_true (by omega)
    clear c3
    obtain rfl := Option.some.inj H
    go_enter Try.func3, Try.ntmps3
    go_wp2
    go_ret
    exact ⟨by first | rfl | (simp [errW_none, errW_some] <;> rfl) | (simp [*, errW_none, errW_some] <;> rfl), by repeat (first | (with_reducible first | exact HB.out | apply below_alloc | apply pw_below_drewN | apply below_drew1) | exact HB.out)⟩
  · rw [if_neg c3] at H
    have c3b0 : decide (1048576 < (l1.length : Int)) = false := decide_eq_false c3
    have c3b1 : decide (1048576 < l1.length) = false := decide_eq_false (by omega)
    clear c3
    replace H := Option.bind_eq_some_iff.mp H
    obtain ⟨t185, A40, H⟩ := H
    have A4 := Aside0.mk A40
    clear A40
    replace H := Option.bind_eq_some_iff.mp H
    obtain ⟨⟨t188, t189, t192, t195⟩, A50, H⟩ := H
    have A5 := Aside0.mk A50
    clear A50
    replace H := Option.bind_eq_some_iff.mp H
    obtain ⟨t197, A60, H⟩ := H
    have A6 := Aside0.mk A60
    clear A60
    replace H := Option.bind_eq_some_iff.mp H
    obtain ⟨⟨t200, t201, t204, t207⟩, A70, H⟩ := H
    have A7 := Aside0.mk A70
    clear A70
    have HC8 := Aside0.mk H
    clear H
    go_enter Try.func3, Try.ntmps3
    go_upto_region 6 with (first | ((with_reducible refine gate_callee (f := 10) rfl ?_); refine goesM_ (some 21) rfl rfl Try.func10 #[.slice A1 l1.length c1] rfl ?_; (with_reducible refine (laws_toInt64S.calls k _ _ l1 t185 _ ?side1 ?side2 A4.out).mono ?_); (case side1 => exact cs (HR1.out)); (case side2 => exact HC1.out); rintro e w9 ⟨v186, rfl, ho0, hb⟩; refine ⟨_, rfl, ?_⟩; have n0_ := Aside0.mk (Kd.R_lower ho0 (below_size (bs HB))); have n1_ := Aside0.mk (below_step (bs HB) hb); clear HB; have HO187 := n0_; have HB := n1_; clear n0_ n1_; (try clear hb); (try clear hb2); (try clear hk); (try clear hi); (try clear ho0); obtain ⟨Ao10, co10, eo10⟩ := Kd.R_slice HO187.out; subst eo10) | ((with_reducible refine gate_callee (f := 9) rfl ?_); refine goesM_ (some 22) rfl rfl Try.func9 #[.int .i64 a0, .slice Ao10 t185.length co10] rfl ?_; (with_reducible refine (spec_JacobiOfSteps.calls k a0 _ _ t185 t188 t189 t192 t195 _ ?side1 ?side2 A5.out).mono ?_); (case side1 => exact cs ((Kd.R_reads' HO187.out).2.2)); (case side2 => exact (Kd.R_reads' HO187.out).2.1); rintro e w11 ⟨v190, v193, rfl, ho0, ho1, hb⟩; refine ⟨_, rfl, ?_⟩; have n0_ := Aside0.mk (Kd.R_mono (Kd.R_told (Kd.R_told (Kd.R_old (rs HO187) hb) (Kd.R_base ho0)) (Kd.R_base ho1)) (fun _ h_ => h_.1)); have n1_ := Aside0.mk (Kd.R_lower (Kd.R_new' ho0 (Kd.R_lt (rs HO187))) (below_size (bs HB))); have n2_ := Aside0.mk (Kd.R_lower (Kd.R_new' ho1 (Kd.R_lt (rs HO187))) (below_size (bs HB))); have n3_ := Aside0.mk (below_step (bs HB) hb); clear HO187; clear HB; have HO187 := n0_; have HO191 := n1_; have HO194 := n2_; have HB := n3_; clear n0_ n1_ n2_ n3_; (try clear hb); (try clear hb2); (try clear hk); (try clear hi); (try clear ho0); (try clear ho1)) | ((with_reducible refine gate_dst (N := 5) rfl ?_); refine box_event ?hg (N := 5) ?hd (cs := #[.int .i64 0, .slice none 0 0, .slice none 0 0]) (t := 24) ?hr ?_; (case hd => rfl); (case hg => rfl); (case hr => first | (go_simp; done) | (go_simp; rfl)); intro gb196 hg w12 hbox hb; have n0_ := Aside0.mk (Kd.R_below (rs HO187) hb); have n1_ := Aside0.mk (Kd.R_below (rs HO191) hb); have n2_ := Aside0.mk (Kd.R_below (rs HO194) hb); have n3_ := Aside0.mk (below_step (bs HB) hb); have n4_ := Aside0.mk (hbox); have n5_ := Aside0.mk ((by rw [hg]; exact (below_size (bs HB)) : w.heap.size ≤ gb196)); have n6_ := Aside0.mk ((by rw [hg]; exact (below_size (bs HB)) : w.heap.size ≤ gb196)); clear HO187; clear HO191; clear HO194; clear HB; have HO187 := n0_; have HO191 := n1_; have HO194 := n2_; have HB := n3_; have BK196 := n4_; have GW196 := n5_; have GE196 := n6_; clear n0_ n1_ n2_ n3_ n4_ n5_ n6_; clear hb hbox hg; have hcz13_0 : w12.cell? ⟨gb196, 0, none⟩ = some (.int .i64 0) := (blk_cell BK196.out 0).trans rfl; have hcz13_1 : w12.cell? ⟨gb196, 1, none⟩ = some (.slice none 0 0) := (blk_cell BK196.out 1).trans rfl; have hcz13_2 : w12.cell? ⟨gb196, 2, none⟩ = some (.slice none 0 0) := (blk_cell BK196.out 2).trans rfl; have hfz13_0 := blk_frozen BK196.out 0; have hfz13_1 := blk_frozen BK196.out 1; have hfz13_2 := blk_frozen BK196.out 2; obtain ⟨Ao14, co14, eo14⟩ := Kd.R_slice HO191.out; subst eo14; obtain ⟨Ao15, co15, eo15⟩ := Kd.R_slice HO194.out; subst eo15) | ((with_reducible refine gate_callee (f := 10) rfl ?_); refine goesM_ (some 26) rfl rfl Try.func10 #[.slice A1 l1.length c1] rfl ?_; (with_reducible refine (laws_toInt64S.calls k _ _ l1 t197 _ ?side1 ?side2 A6.out).mono ?_); (case side1 => exact Kd.C_below HR1.out (by repeat (first | (with_reducible first | exact HB.out | apply below_alloc | apply pw_below_drewN | apply below_drew1 | refine below_set ?_ GE196.out) | exact HB.out))); (case side2 => exact HC1.out); rintro e w16 ⟨v198, rfl, ho0, hb⟩; refine ⟨_, rfl, ?_⟩; have n0_ := Aside0.mk (Kd.R_elder' (by (with_reducible repeat (first | apply Kd.R_alloc | apply Kd.R_drewN | apply Kd.R_drew)); exact (Kd.R_mono (Kd.R_far (p := ⟨gb196, 2, none⟩) (Kd.R_far (p := ⟨gb196, 1, none⟩) (Kd.R_far (p := ⟨gb196, 0, none⟩) (Kd.R_types HO187.out BK196.out (by decide)) (fun _ hk => hk.2) (.int .i64 t188)) (fun _ hk => hk.2) (.slice Ao14 t189.length co14)) (fun _ hk => hk.2) (.slice Ao15 t192.length co15)) (fun _ h_ => h_.1))) (Kd.R_base ho0) hb); have n1_ := Aside0.mk (Kd.R_elder' (by (with_reducible repeat (first | apply Kd.R_alloc | apply Kd.R_drewN | apply Kd.R_drew)); exact (Kd.R_mono (Kd.R_far (p := ⟨gb196, 2, none⟩) (Kd.R_far (p := ⟨gb196, 1, none⟩) (Kd.R_far (p := ⟨gb196, 0, none⟩) (Kd.R_types HO191.out BK196.out (by decide)) (fun _ hk => hk.2) (.int .i64 t188)) (fun _ hk => hk.2) (.slice Ao14 t189.length co14)) (fun _ hk => hk.2) (.slice Ao15 t192.length co15)) (fun _ h_ => h_.1))) (Kd.R_base ho0) hb); have n2_ := Aside0.mk (Kd.R_elder' (by (with_reducible repeat (first | apply Kd.R_alloc | apply Kd.R_drewN | apply Kd.R_drew)); exact (Kd.R_mono (Kd.R_far (p := ⟨gb196, 2, none⟩) (Kd.R_far (p := ⟨gb196, 1, none⟩) (Kd.R_far (p := ⟨gb196, 0, none⟩) (Kd.R_types HO194.out BK196.out (by decide)) (fun _ hk => hk.2) (.int .i64 t188)) (fun _ hk => hk.2) (.slice Ao14 t189.length co14)) (fun _ hk => hk.2) (.slice Ao15 t192.length co15)) (fun _ h_ => h_.1))) (Kd.R_base ho0) hb); have n3_ := Aside0.mk (Kd.R_lower (Kd.R_new' (Kd.R_new' (Kd.R_new' ho0 (Kd.R_lt (by (with_reducible repeat (first | apply Kd.R_alloc | apply Kd.R_drewN | apply Kd.R_drew)); exact (Kd.R_mono (Kd.R_far (p := ⟨gb196, 2, none⟩) (Kd.R_far (p := ⟨gb196, 1, none⟩) (Kd.R_far (p := ⟨gb196, 0, none⟩) (Kd.R_types HO187.out BK196.out (by decide)) (fun _ hk => hk.2) (.int .i64 t188)) (fun _ hk => hk.2) (.slice Ao14 t189.length co14)) (fun _ hk => hk.2) (.slice Ao15 t192.length co15)) (fun _ h_ => h_.1))))) (Kd.R_lt (by (with_reducible repeat (first | apply Kd.R_alloc | apply Kd.R_drewN | apply Kd.R_drew)); exact (Kd.R_mono (Kd.R_far (p := ⟨gb196, 2, none⟩) (Kd.R_far (p := ⟨gb196, 1, none⟩) (Kd.R_far (p := ⟨gb196, 0, none⟩) (Kd.R_types HO191.out BK196.out (by decide)) (fun _ hk => hk.2) (.int .i64 t188)) (fun _ hk => hk.2) (.slice Ao14 t189.length co14)) (fun _ hk => hk.2) (.slice Ao15 t192.length co15)) (fun _ h_ => h_.1))))) (Kd.R_lt (by (with_reducible repeat (first | apply Kd.R_alloc | apply Kd.R_drewN | apply Kd.R_drew)); exact (Kd.R_mono (Kd.R_far (p := ⟨gb196, 2, none⟩) (Kd.R_far (p := ⟨gb196, 1, none⟩) (Kd.R_far (p := ⟨gb196, 0, none⟩) (Kd.R_types HO194.out BK196.out (by decide)) (fun _ hk => hk.2) (.int .i64 t188)) (fun _ hk => hk.2) (.slice Ao14 t189.length co14)) (fun _ hk => hk.2) (.slice Ao15 t192.length co15)) (fun _ h_ => h_.1))))) (below_size (by repeat (first | (with_reducible first | exact HB.out | apply below_alloc | apply pw_below_drewN | apply below_drew1 | refine below_set ?_ GE196.out) | exact HB.out)))); have n4_ := Aside0.mk (blk_below (g := gb196) (o := .cells #[.int .i64 t188, .slice Ao14 t189.length co14, .slice Ao15 t192.length co15] 24 (0, 0)) (by (with_reducible repeat (first | refine blk_drewN ?_ _ | refine blk_drew ?_ | refine blk_alloc ?_ _)); refine blk_put (cs := #[.int .i64 t188, .slice Ao14 t189.length co14, .slice none 0 0]) ?_ 2 _ rfl; (with_reducible repeat (first | refine blk_drewN ?_ _ | refine blk_drew ?_ | refine blk_alloc ?_ _)); refine blk_put (cs := #[.int .i64 t188, .slice none 0 0, .slice none 0 0]) ?_ 1 _ rfl; (with_reducible repeat (first | refine blk_drewN ?_ _ | refine blk_drew ?_ | refine blk_alloc ?_ _)); refine blk_put (cs := #[.int .i64 0, .slice none 0 0, .slice none 0 0]) ?_ 0 _ rfl; (with_reducible repeat (first | refine blk_drewN ?_ _ | refine blk_drew ?_ | refine blk_alloc ?_ _)); exact BK196.out) hb); have n5_ := Aside0.mk (below_step (by repeat (first | (with_reducible first | exact HB.out | apply below_alloc | apply pw_below_drewN | apply below_drew1 | refine below_set ?_ GE196.out) | exact HB.out)) hb); clear HO187; clear HO191; clear HO194; clear BK196; clear HB; have HO187 := n0_; have HO191 := n1_; have HO194 := n2_; have HO199 := n3_; have BK196 := n4_; have HB := n5_; clear n0_ n1_ n2_ n3_ n4_ n5_; (try clear hb); (try clear hb2); (try clear hk); (try clear hi); (try clear ho0); obtain ⟨Ao17, co17, eo17⟩ := Kd.R_slice HO199.out; subst eo17) | ((with_reducible refine gate_callee (f := 11) rfl ?_); refine goesM_ (some 30) rfl rfl Try.func11 #[.int .i64 a0, .slice Ao17 t197.length co17] rfl ?_; (with_reducible refine (impl_JacobiOfSteps.calls k a0 _ _ t197 t200 t201 t204 t207 _ ?side1 ?side2 A7.out).mono ?_); (case side1 => exact cs ((Kd.R_reads' HO199.out).2.2)); (case side2 => exact (Kd.R_reads' HO199.out).2.1); rintro e w18 ⟨v202, v205, rfl, ho0, ho1, hb⟩; refine ⟨_, rfl, ?_⟩; have n0_ := Aside0.mk (Kd.R_mono (Kd.R_told (Kd.R_told (Kd.R_old (rs HO187) hb) (Kd.R_base ho0)) (Kd.R_base ho1)) (fun _ h_ => h_.1)); have n1_ := Aside0.mk (Kd.R_mono (Kd.R_told (Kd.R_told (Kd.R_old (rs HO191) hb) (Kd.R_base ho0)) (Kd.R_base ho1)) (fun _ h_ => h_.1)); have n2_ := Aside0.mk (Kd.R_mono (Kd.R_told (Kd.R_told (Kd.R_old (rs HO194) hb) (Kd.R_base ho0)) (Kd.R_base ho1)) (fun _ h_ => h_.1)); have n3_ := Aside0.mk (Kd.R_mono (Kd.R_told (Kd.R_told (Kd.R_old (rs HO199) hb) (Kd.R_base ho0)) (Kd.R_base ho1)) (fun _ h_ => h_.1)); have n4_ := Aside0.mk (Kd.R_lower (Kd.R_new' (Kd.R_new' (Kd.R_new' (Kd.R_new' ho0 (Kd.R_lt (rs HO187))) (Kd.R_lt (rs HO191))) (Kd.R_lt (rs HO194))) (Kd.R_lt (rs HO199))) (below_size (by repeat (first | (with_reducible first | exact HB.out | apply below_alloc | apply pw_below_drewN | apply below_drew1 | refine below_set ?_ GE196.out) | exact HB.out)))); have n5_ := Aside0.mk (Kd.R_lower (Kd.R_new' (Kd.R_new' (Kd.R_new' (Kd.R_new' ho1 (Kd.R_lt (rs HO187))) (Kd.R_lt (rs HO191))) (Kd.R_lt (rs HO194))) (Kd.R_lt (rs HO199))) (below_size (by repeat (first | (with_reducible first | exact HB.out | apply below_alloc | apply pw_below_drewN | apply below_drew1 | refine below_set ?_ GE196.out) | exact HB.out)))); have n6_ := Aside0.mk (blk_below (g := gb196) (o := .cells #[.int .i64 t188, .slice Ao14 t189.length co14, .slice Ao15 t192.length co15] 24 (0, 0)) (by (with_reducible repeat (first | refine blk_drewN ?_ _ | refine blk_drew ?_ | refine blk_alloc ?_ _)); exact BK196.out) hb); have n7_ := Aside0.mk (below_step (by repeat (first | (with_reducible first | exact HB.out | apply below_alloc | apply pw_below_drewN | apply below_drew1 | refine below_set ?_ GE196.out) | exact HB.out)) hb); clear HO187; clear HO191; clear HO194; clear HO199; clear BK196; clear HB; have HO187 := n0_; have HO191 := n1_; have HO194 := n2_; have HO199 := n3_; have HO203 := n4_; have HO206 := n5_; have BK196 := n6_; have HB := n7_; clear n0_ n1_ n2_ n3_ n4_ n5_ n6_ n7_; (try clear hb); (try clear hb2); (try clear hk); (try clear hi); (try clear ho0); (try clear ho1)) | ((with_reducible refine gate_dst (N := 8) rfl ?_); refine box_event ?hg (N := 8) ?hd (cs := #[.int .i64 0, .slice none 0 0, .slice none 0 0]) (t := 24) ?hr ?_; (case hd => rfl); (case hg => rfl); (case hr => first | (go_simp; done) | (go_simp; rfl)); intro gb208 hg w19 hbox hb; have n0_ := Aside0.mk (Kd.R_below (rs HO187) hb); have n1_ := Aside0.mk (Kd.R_below (rs HO191) hb); have n2_ := Aside0.mk (Kd.R_below (rs HO194) hb); have n3_ := Aside0.mk (Kd.R_below (rs HO199) hb); have n4_ := Aside0.mk (Kd.R_below (rs HO203) hb); have n5_ := Aside0.mk (Kd.R_below (rs HO206) hb); have n6_ := Aside0.mk (blk_below (g := gb196) (o := .cells #[.int .i64 t188, .slice Ao14 t189.length co14, .slice Ao15 t192.length co15] 24 (0, 0)) (by (with_reducible repeat (first | refine blk_drewN ?_ _ | refine blk_drew ?_ | refine blk_alloc ?_ _)); exact BK196.out) hb); have n7_ := Aside0.mk (below_step (by repeat (first | (with_reducible first | exact HB.out | apply below_alloc | apply pw_below_drewN | apply below_drew1 | refine below_set ?_ GE196.out) | exact HB.out)) hb); have n8_ := Aside0.mk (hbox); have n9_ := Aside0.mk ((by rw [hg]; exact (below_size (by repeat (first | (with_reducible first | exact HB.out | apply below_alloc | apply pw_below_drewN | apply below_drew1 | refine below_set ?_ GE196.out) | exact HB.out))) : w.heap.size ≤ gb208)); have n10_ := Aside0.mk ((by rw [hg]; exact (below_size (by repeat (first | (with_reducible first | exact HB.out | apply below_alloc | apply pw_below_drewN | apply below_drew1 | refine below_set ?_ GE196.out) | exact HB.out))) : w.heap.size ≤ gb208)); have n11_ := Aside0.mk ((by rw [hg]; exact Nat.ne_of_lt (blk_lt (g := gb196) (o := .cells #[.int .i64 t188, .slice Ao14 t189.length co14, .slice Ao15 t192.length co15] 24 (0, 0)) (by (with_reducible repeat (first | refine blk_drewN ?_ _ | refine blk_drew ?_ | refine blk_alloc ?_ _)); exact BK196.out)) : gb196 ≠ gb208)); have n12_ := Aside0.mk ((by rw [hg]; exact Nat.ne_of_gt (blk_lt (g := gb196) (o := .cells #[.int .i64 t188, .slice Ao14 t189.length co14, .slice Ao15 t192.length co15] 24 (0, 0)) (by (with_reducible repeat (first | refine blk_drewN ?_ _ | refine blk_drew ?_ | refine blk_alloc ?_ _)); exact BK196.out)) : gb208 ≠ gb196)); clear HO187; clear HO191; clear HO194; clear HO199; clear HO203; clear HO206; clear BK196; clear HB; have HO187 := n0_; have HO191 := n1_; have HO194 := n2_; have HO199 := n3_; have HO203 := n4_; have HO206 := n5_; have BK196 := n6_; have HB := n7_; have BK208 := n8_; have GW208 := n9_; have GE208 := n10_; have NB196_208 := n11_; have NB208_196 := n12_; clear n0_ n1_ n2_ n3_ n4_ n5_ n6_ n7_ n8_ n9_ n10_ n11_ n12_; clear hb hbox hg; have hnb20 := NB208_196.out; have hnc20 := NB196_208.out; have hcz21_0 : w19.cell? ⟨gb208, 0, none⟩ = some (.int .i64 0) := (blk_cell BK208.out 0).trans rfl; have hcz21_1 : w19.cell? ⟨gb208, 1, none⟩ = some (.slice none 0 0) := (blk_cell BK208.out 1).trans rfl; have hcz21_2 : w19.cell? ⟨gb208, 2, none⟩ = some (.slice none 0 0) := (blk_cell BK208.out 2).trans rfl; have hfz21_0 := blk_frozen BK208.out 0; have hfz21_1 := blk_frozen BK208.out 1; have hfz21_2 := blk_frozen BK208.out 2; obtain ⟨Ao22, co22, eo22⟩ := Kd.R_slice HO203.out; subst eo22; obtain ⟨Ao23, co23, eo23⟩ := Kd.R_slice HO206.out; subst eo23))
    (try simp only [Act.put, List.setIfInBounds_toArray, List.set_cons_zero, List.set_cons_succ])
    go_cut [41] (fun v41 wc => ∃ (kq : Nat) (x41_7 : Bool), v41 = .bool x41_7 ∧ Aside0 (laws_FnExactJacobiOfSteps.j0 kq a0 l1 t195 t197 t207 x41_7 t188 t189 t192 t200 t201 t204 = some r) ∧ Aside0 (kq ≤ k) ∧ Aside0 (Kd.R (Kd.int .i64) 2 wc w.heap.size (fun k_ => some k_ ≠ ((.slice Ao14 t189.length co14) : Value).ownBlock ∧ some k_ ≠ ((.slice Ao15 t192.length co15) : Value).ownBlock ∧ some k_ ≠ ((.slice Ao22 t201.length co22) : Value).ownBlock ∧ some k_ ≠ ((.slice Ao23 t204.length co23) : Value).ownBlock) (.slice Ao17 t197.length co17) t197) ∧ Aside0 (Kd.R (Kd.int .i64) 2 wc w.heap.size (fun k_ => some k_ ≠ ((.slice Ao17 t197.length co17) : Value).ownBlock ∧ some k_ ≠ ((.slice Ao15 t192.length co15) : Value).ownBlock ∧ some k_ ≠ ((.slice Ao22 t201.length co22) : Value).ownBlock ∧ some k_ ≠ ((.slice Ao23 t204.length co23) : Value).ownBlock) (.slice Ao14 t189.length co14) t189) ∧ Aside0 (Kd.R (Kd.int .i64) 2 wc w.heap.size (fun k_ => some k_ ≠ ((.slice Ao17 t197.length co17) : Value).ownBlock ∧ some k_ ≠ ((.slice Ao14 t189.length co14) : Value).ownBlock ∧ some k_ ≠ ((.slice Ao22 t201.length co22) : Value).ownBlock ∧ some k_ ≠ ((.slice Ao23 t204.length co23) : Value).ownBlock) (.slice Ao15 t192.length co15) t192) ∧ Aside0 (Kd.R (Kd.int .i64) 2 wc w.heap.size (fun k_ => some k_ ≠ ((.slice Ao17 t197.length co17) : Value).ownBlock ∧ some k_ ≠ ((.slice Ao14 t189.length co14) : Value).ownBlock ∧ some k_ ≠ ((.slice Ao15 t192.length co15) : Value).ownBlock ∧ some k_ ≠ ((.slice Ao23 t204.length co23) : Value).ownBlock) (.slice Ao22 t201.length co22) t201) ∧ Aside0 (Kd.R (Kd.int .i64) 2 wc w.heap.size (fun k_ => some k_ ≠ ((.slice Ao17 t197.length co17) : Value).ownBlock ∧ some k_ ≠ ((.slice Ao14 t189.length co14) : Value).ownBlock ∧ some k_ ≠ ((.slice Ao15 t192.length co15) : Value).ownBlock ∧ some k_ ≠ ((.slice Ao22 t201.length co22) : Value).ownBlock) (.slice Ao23 t204.length co23) t204) ∧ Aside0 (wc.heap[gb196]? = some (.cells #[.int .i64 t188, (.slice Ao14 t189.length co14), (.slice Ao15 t192.length co15)] 24 (0, 0))) ∧ Aside0 (wc.heap[gb208]? = some (.cells #[.int .i64 t200, (.slice Ao22 t201.length co22), (.slice Ao23 t204.length co23)] 24 (0, 0))) ∧ Aside0 (Below w.heap.size w wc))
    case first =>
      have H := HC8.out
      clear HC8
      replace H := Option.bind_eq_some_iff.mp H
      obtain ⟨t209, A240, H⟩ := H
      have A24 := Aside0.mk A240
      clear A240
      by_cases c25 : t209 = true
      · subst c25
        have H1 : (laws_FnExactJacobiOfSteps.j0 k a0 l1 t195 t197 t207 (t207 != t195) t188 t189 t192 t200 t201 t204) = some r := by rw [if_pos rfl] at H; exact H
        clear H
        have H := H1
        clear H1
        have H' := Aside0.mk H
        clear H
        have hnb26 := NB208_196.out
        have hnc26 := NB196_208.out
        have hcz27_0 : w19.cell? ⟨gb208, 0, none⟩ = some (.int .i64 0) := (blk_cell BK208.out 0).trans rfl
        have hcz27_1 : w19.cell? ⟨gb208, 1, none⟩ = some (.slice none 0 0) := (blk_cell BK208.out 1).trans rfl
        have hcz27_2 : w19.cell? ⟨gb208, 2, none⟩ = some (.slice none 0 0) := (blk_cell BK208.out 2).trans rfl
        have hfz27_0 := blk_frozen BK208.out 0
        have hfz27_1 := blk_frozen BK208.out 1
        have hfz27_2 := blk_frozen BK208.out 2
        have hcz28_0 : w19.cell? ⟨gb196, 0, none⟩ = some (.int .i64 t188) := (blk_cell BK196.out 0).trans rfl
        have hcz28_1 : w19.cell? ⟨gb196, 1, none⟩ = some (.slice Ao14 t189.length co14) := (blk_cell BK196.out 1).trans rfl
        have hcz28_2 : w19.cell? ⟨gb196, 2, none⟩ = some (.slice Ao15 t192.length co15) := (blk_cell BK196.out 2).trans rfl
        have hfz28_0 := blk_frozen BK196.out 0
        have hfz28_1 := blk_frozen BK196.out 1
        have hfz28_2 := blk_frozen BK196.out 2
        go_wp2_with (first | ((with_reducible refine gate_callee (f := 12) rfl ?_); refine goesM_ (some 35) rfl rfl Try.func12 #[.agg #[.int .i64 t200, .slice Ao22 t201.length co22, .slice Ao23 t204.length co23], .agg #[.int .i64 t188, .slice Ao14 t189.length co14, .slice Ao15 t192.length co15]] rfl ?_; (with_reducible refine (laws_eqJacobi.calls k t200 _ _ t201 _ _ t204 t188 _ _ t189 _ _ t192 true _ ?side1 ?side2 ?side3 ?side4 ?side5 ?side6 ?side7 ?side8 A24.out).mono ?_); (case side1 => refine (Kd.R_reads' (e := 2) (base := w.heap.size) (ok := fun k_ => ((((some k_ ≠ (.slice Ao23 t204.length co23 : Value).ownBlock ∧ some k_ ≠ (.slice Ao10 t185.length co10 : Value).ownBlock) ∧ some k_ ≠ (.slice Ao14 t189.length co14 : Value).ownBlock) ∧ some k_ ≠ (.slice Ao15 t192.length co15 : Value).ownBlock) ∧ some k_ ≠ (.slice Ao17 t197.length co17 : Value).ownBlock)) (n := t201.length) (c := co22) ?_).2.2; exact (by (with_reducible repeat (first | apply Kd.R_alloc | apply Kd.R_drewN | apply Kd.R_drew)); exact (Kd.R_mono (Kd.R_far (p := ⟨gb208, 2, none⟩) (Kd.R_far (p := ⟨gb208, 1, none⟩) (Kd.R_far (p := ⟨gb208, 0, none⟩) (Kd.R_types HO203.out BK208.out (by decide)) (fun _ hk => hk.2) (.int .i64 t200)) (fun _ hk => hk.2) (.slice Ao22 t201.length co22)) (fun _ hk => hk.2) (.slice Ao23 t204.length co23)) (fun _ h_ => h_.1)))); (case side2 => exact (Kd.R_reads' HO203.out).2.1); (case side3 => refine (Kd.R_reads' (e := 2) (base := w.heap.size) (ok := fun k_ => ((((some k_ ≠ (.slice Ao22 t201.length co22 : Value).ownBlock ∧ some k_ ≠ (.slice Ao10 t185.length co10 : Value).ownBlock) ∧ some k_ ≠ (.slice Ao14 t189.length co14 : Value).ownBlock) ∧ some k_ ≠ (.slice Ao15 t192.length co15 : Value).ownBlock) ∧ some k_ ≠ (.slice Ao17 t197.length co17 : Value).ownBlock)) (n := t204.length) (c := co23) ?_).2.2; exact (by (with_reducible repeat (first | apply Kd.R_alloc | apply Kd.R_drewN | apply Kd.R_drew)); exact (Kd.R_mono (Kd.R_far (p := ⟨gb208, 2, none⟩) (Kd.R_far (p := ⟨gb208, 1, none⟩) (Kd.R_far (p := ⟨gb208, 0, none⟩) (Kd.R_types HO206.out BK208.out (by decide)) (fun _ hk => hk.2) (.int .i64 t200)) (fun _ hk => hk.2) (.slice Ao22 t201.length co22)) (fun _ hk => hk.2) (.slice Ao23 t204.length co23)) (fun _ h_ => h_.1)))); (case side4 => exact (Kd.R_reads' HO206.out).2.1); (case side5 => refine (Kd.R_reads' (e := 2) (base := w.heap.size) (ok := fun k_ => ((((some k_ ≠ (.slice Ao15 t192.length co15 : Value).ownBlock ∧ some k_ ≠ (.slice Ao10 t185.length co10 : Value).ownBlock) ∧ some k_ ≠ (.slice Ao17 t197.length co17 : Value).ownBlock) ∧ some k_ ≠ (.slice Ao22 t201.length co22 : Value).ownBlock) ∧ some k_ ≠ (.slice Ao23 t204.length co23 : Value).ownBlock)) (n := t189.length) (c := co14) ?_).2.2; exact (by (with_reducible repeat (first | apply Kd.R_alloc | apply Kd.R_drewN | apply Kd.R_drew)); exact (Kd.R_mono (Kd.R_far (p := ⟨gb208, 2, none⟩) (Kd.R_far (p := ⟨gb208, 1, none⟩) (Kd.R_far (p := ⟨gb208, 0, none⟩) (Kd.R_types HO191.out BK208.out (by decide)) (fun _ hk => hk.2) (.int .i64 t200)) (fun _ hk => hk.2) (.slice Ao22 t201.length co22)) (fun _ hk => hk.2) (.slice Ao23 t204.length co23)) (fun _ h_ => h_.1)))); (case side6 => exact (Kd.R_reads' HO191.out).2.1); (case side7 => refine (Kd.R_reads' (e := 2) (base := w.heap.size) (ok := fun k_ => ((((some k_ ≠ (.slice Ao14 t189.length co14 : Value).ownBlock ∧ some k_ ≠ (.slice Ao10 t185.length co10 : Value).ownBlock) ∧ some k_ ≠ (.slice Ao17 t197.length co17 : Value).ownBlock) ∧ some k_ ≠ (.slice Ao22 t201.length co22 : Value).ownBlock) ∧ some k_ ≠ (.slice Ao23 t204.length co23 : Value).ownBlock)) (n := t192.length) (c := co15) ?_).2.2; exact (by (with_reducible repeat (first | apply Kd.R_alloc | apply Kd.R_drewN | apply Kd.R_drew)); exact (Kd.R_mono (Kd.R_far (p := ⟨gb208, 2, none⟩) (Kd.R_far (p := ⟨gb208, 1, none⟩) (Kd.R_far (p := ⟨gb208, 0, none⟩) (Kd.R_types HO194.out BK208.out (by decide)) (fun _ hk => hk.2) (.int .i64 t200)) (fun _ hk => hk.2) (.slice Ao22 t201.length co22)) (fun _ hk => hk.2) (.slice Ao23 t204.length co23)) (fun _ h_ => h_.1)))); (case side8 => exact (Kd.R_reads' HO194.out).2.1); rintro e w29 ⟨rfl, hb⟩; refine ⟨_, rfl, ?_⟩; have n0_ := Aside0.mk (Kd.R_below (by (with_reducible repeat (first | apply Kd.R_alloc | apply Kd.R_drewN | apply Kd.R_drew)); exact (Kd.R_mono (Kd.R_far (p := ⟨gb208, 2, none⟩) (Kd.R_far (p := ⟨gb208, 1, none⟩) (Kd.R_far (p := ⟨gb208, 0, none⟩) (Kd.R_types HO187.out BK208.out (by decide)) (fun _ hk => hk.2) (.int .i64 t200)) (fun _ hk => hk.2) (.slice Ao22 t201.length co22)) (fun _ hk => hk.2) (.slice Ao23 t204.length co23)) (fun _ h_ => h_.1))) hb); have n1_ := Aside0.mk (Kd.R_below (by (with_reducible repeat (first | apply Kd.R_alloc | apply Kd.R_drewN | apply Kd.R_drew)); exact (Kd.R_mono (Kd.R_far (p := ⟨gb208, 2, none⟩) (Kd.R_far (p := ⟨gb208, 1, none⟩) (Kd.R_far (p := ⟨gb208, 0, none⟩) (Kd.R_types HO191.out BK208.out (by decide)) (fun _ hk => hk.2) (.int .i64 t200)) (fun _ hk => hk.2) (.slice Ao22 t201.length co22)) (fun _ hk => hk.2) (.slice Ao23 t204.length co23)) (fun _ h_ => h_.1))) hb); have n2_ := Aside0.mk (Kd.R_below (by (with_reducible repeat (first | apply Kd.R_alloc | apply Kd.R_drewN | apply Kd.R_drew)); exact (Kd.R_mono (Kd.R_far (p := ⟨gb208, 2, none⟩) (Kd.R_far (p := ⟨gb208, 1, none⟩) (Kd.R_far (p := ⟨gb208, 0, none⟩) (Kd.R_types HO194.out BK208.out (by decide)) (fun _ hk => hk.2) (.int .i64 t200)) (fun _ hk => hk.2) (.slice Ao22 t201.length co22)) (fun _ hk => hk.2) (.slice Ao23 t204.length co23)) (fun _ h_ => h_.1))) hb); have n3_ := Aside0.mk (Kd.R_below (by (with_reducible repeat (first | apply Kd.R_alloc | apply Kd.R_drewN | apply Kd.R_drew)); exact (Kd.R_mono (Kd.R_far (p := ⟨gb208, 2, none⟩) (Kd.R_far (p := ⟨gb208, 1, none⟩) (Kd.R_far (p := ⟨gb208, 0, none⟩) (Kd.R_types HO199.out BK208.out (by decide)) (fun _ hk => hk.2) (.int .i64 t200)) (fun _ hk => hk.2) (.slice Ao22 t201.length co22)) (fun _ hk => hk.2) (.slice Ao23 t204.length co23)) (fun _ h_ => h_.1))) hb); have n4_ := Aside0.mk (Kd.R_below (by (with_reducible repeat (first | apply Kd.R_alloc | apply Kd.R_drewN | apply Kd.R_drew)); exact (Kd.R_mono (Kd.R_far (p := ⟨gb208, 2, none⟩) (Kd.R_far (p := ⟨gb208, 1, none⟩) (Kd.R_far (p := ⟨gb208, 0, none⟩) (Kd.R_types HO203.out BK208.out (by decide)) (fun _ hk => hk.2) (.int .i64 t200)) (fun _ hk => hk.2) (.slice Ao22 t201.length co22)) (fun _ hk => hk.2) (.slice Ao23 t204.length co23)) (fun _ h_ => h_.1))) hb); have n5_ := Aside0.mk (Kd.R_below (by (with_reducible repeat (first | apply Kd.R_alloc | apply Kd.R_drewN | apply Kd.R_drew)); exact (Kd.R_mono (Kd.R_far (p := ⟨gb208, 2, none⟩) (Kd.R_far (p := ⟨gb208, 1, none⟩) (Kd.R_far (p := ⟨gb208, 0, none⟩) (Kd.R_types HO206.out BK208.out (by decide)) (fun _ hk => hk.2) (.int .i64 t200)) (fun _ hk => hk.2) (.slice Ao22 t201.length co22)) (fun _ hk => hk.2) (.slice Ao23 t204.length co23)) (fun _ h_ => h_.1))) hb); have n6_ := Aside0.mk (blk_below (g := gb196) (o := .cells #[.int .i64 t188, .slice Ao14 t189.length co14, .slice Ao15 t192.length co15] 24 (0, 0)) (by (with_reducible repeat (first | refine blk_drewN ?_ _ | refine blk_drew ?_ | refine blk_alloc ?_ _)); refine blk_far ?_ NB196_208.out _; (with_reducible repeat (first | refine blk_drewN ?_ _ | refine blk_drew ?_ | refine blk_alloc ?_ _)); refine blk_far ?_ NB196_208.out _; (with_reducible repeat (first | refine blk_drewN ?_ _ | refine blk_drew ?_ | refine blk_alloc ?_ _)); refine blk_far ?_ NB196_208.out _; (with_reducible repeat (first | refine blk_drewN ?_ _ | refine blk_drew ?_ | refine blk_alloc ?_ _)); exact BK196.out) hb); have n7_ := Aside0.mk (blk_below (g := gb208) (o := .cells #[.int .i64 t200, .slice Ao22 t201.length co22, .slice Ao23 t204.length co23] 24 (0, 0)) (by (with_reducible repeat (first | refine blk_drewN ?_ _ | refine blk_drew ?_ | refine blk_alloc ?_ _)); refine blk_put (cs := #[.int .i64 t200, .slice Ao22 t201.length co22, .slice none 0 0]) ?_ 2 _ rfl; (with_reducible repeat (first | refine blk_drewN ?_ _ | refine blk_drew ?_ | refine blk_alloc ?_ _)); refine blk_put (cs := #[.int .i64 t200, .slice none 0 0, .slice none 0 0]) ?_ 1 _ rfl; (with_reducible repeat (first | refine blk_drewN ?_ _ | refine blk_drew ?_ | refine blk_alloc ?_ _)); refine blk_put (cs := #[.int .i64 0, .slice none 0 0, .slice none 0 0]) ?_ 0 _ rfl; (with_reducible repeat (first | refine blk_drewN ?_ _ | refine blk_drew ?_ | refine blk_alloc ?_ _)); exact BK208.out) hb); have n8_ := Aside0.mk (below_step (by repeat (first | (with_reducible first | exact HB.out | apply below_alloc | apply pw_below_drewN | apply below_drew1 | refine below_set ?_ GE196.out | refine below_set ?_ GE208.out) | exact HB.out)) hb); clear HO187; clear HO191; clear HO194; clear HO199; clear HO203; clear HO206; clear BK196; clear BK208; clear HB; have HO187 := n0_; have HO191 := n1_; have HO194 := n2_; have HO199 := n3_; have HO203 := n4_; have HO206 := n5_; have BK196 := n6_; have BK208 := n7_; have HB := n8_; clear n0_ n1_ n2_ n3_ n4_ n5_ n6_ n7_ n8_; (try clear hb); (try clear hb2); (try clear hk); (try clear hi)))
        go_meet
        case rel => exact ⟨_, ((t207 != t195)), ea_, H', ⟨by first | omega | exact Nat.le_refl _⟩, ⟨by (with_reducible repeat (first | apply Kd.R_alloc | apply Kd.R_drewN | apply Kd.R_drew)); exact Kd.R_mono HO199.out (fun _ hk => ⟨hk.1.1.1.2, ⟨hk.1.1.2, ⟨hk.1.2, hk.2⟩⟩⟩)⟩, ⟨by (with_reducible repeat (first | apply Kd.R_alloc | apply Kd.R_drewN | apply Kd.R_drew)); exact Kd.R_mono HO191.out (fun _ hk => ⟨hk.1.1.2, ⟨hk.1.1.1.1, ⟨hk.1.2, hk.2⟩⟩⟩)⟩, ⟨by (with_reducible repeat (first | apply Kd.R_alloc | apply Kd.R_drewN | apply Kd.R_drew)); exact Kd.R_mono HO194.out (fun _ hk => ⟨hk.1.1.2, ⟨hk.1.1.1.1, ⟨hk.1.2, hk.2⟩⟩⟩)⟩, ⟨by (with_reducible repeat (first | apply Kd.R_alloc | apply Kd.R_drewN | apply Kd.R_drew)); exact Kd.R_mono HO203.out (fun _ hk => ⟨hk.2, ⟨hk.1.1.2, ⟨hk.1.2, hk.1.1.1.1⟩⟩⟩)⟩, ⟨by (with_reducible repeat (first | apply Kd.R_alloc | apply Kd.R_drewN | apply Kd.R_drew)); exact Kd.R_mono HO206.out (fun _ hk => ⟨hk.2, ⟨hk.1.1.2, ⟨hk.1.2, hk.1.1.1.1⟩⟩⟩)⟩, ⟨by (with_reducible repeat (first | refine blk_drewN ?_ _ | refine blk_drew ?_ | refine blk_alloc ?_ _)); exact BK196.out⟩, ⟨by (with_reducible repeat (first | refine blk_drewN ?_ _ | refine blk_drew ?_ | refine blk_alloc ?_ _)); exact BK208.out⟩, ⟨by repeat (first | (with_reducible first | exact HB.out | apply below_alloc | apply pw_below_drewN | apply below_drew1 | refine below_set ?_ GE196.out | refine below_set ?_ GE208.out) | exact HB.out)⟩⟩
      · replace c25 := Bool.eq_false_iff.mpr c25
        subst c25
        have H1 : (laws_FnExactJacobiOfSteps.j0 k a0 l1 t195 t197 t207 true t188 t189 t192 t200 t201 t204) = some r := by rw [if_neg (show ¬ (false = true) by decide)] at H; exact H
        clear H
        have H := H1
        clear H1
        have H' := Aside0.mk H
        clear H
        have hnb30 := NB208_196.out
        have hnc30 := NB196_208.out
        have hcz31_0 : w19.cell? ⟨gb208, 0, none⟩ = some (.int .i64 0) := (blk_cell BK208.out 0).trans rfl
        have hcz31_1 : w19.cell? ⟨gb208, 1, none⟩ = some (.slice none 0 0) := (blk_cell BK208.out 1).trans rfl
        have hcz31_2 : w19.cell? ⟨gb208, 2, none⟩ = some (.slice none 0 0) := (blk_cell BK208.out 2).trans rfl
        have hfz31_0 := blk_frozen BK208.out 0
        have hfz31_1 := blk_frozen BK208.out 1
        have hfz31_2 := blk_frozen BK208.out 2
        have hcz32_0 : w19.cell? ⟨gb196, 0, none⟩ = some (.int .i64 t188) := (blk_cell BK196.out 0).trans rfl
        have hcz32_1 : w19.cell? ⟨gb196, 1, none⟩ = some (.slice Ao14 t189.length co14) := (blk_cell BK196.out 1).trans rfl
        have hcz32_2 : w19.cell? ⟨gb196, 2, none⟩ = some (.slice Ao15 t192.length co15) := (blk_cell BK196.out 2).trans rfl
        have hfz32_0 := blk_frozen BK196.out 0
        have hfz32_1 := blk_frozen BK196.out 1
        have hfz32_2 := blk_frozen BK196.out 2
        go_wp2_with (first | ((with_reducible refine gate_callee (f := 12) rfl ?_); refine goesM_ (some 35) rfl rfl Try.func12 #[.agg #[.int .i64 t200, .slice Ao22 t201.length co22, .slice Ao23 t204.length co23], .agg #[.int .i64 t188, .slice Ao14 t189.length co14, .slice Ao15 t192.length co15]] rfl ?_; (with_reducible refine (laws_eqJacobi.calls k t200 _ _ t201 _ _ t204 t188 _ _ t189 _ _ t192 false _ ?side1 ?side2 ?side3 ?side4 ?side5 ?side6 ?side7 ?side8 A24.out).mono ?_); (case side1 => refine (Kd.R_reads' (e := 2) (base := w.heap.size) (ok := fun k_ => ((((some k_ ≠ (.slice Ao23 t204.length co23 : Value).ownBlock ∧ some k_ ≠ (.slice Ao10 t185.length co10 : Value).ownBlock) ∧ some k_ ≠ (.slice Ao14 t189.length co14 : Value).ownBlock) ∧ some k_ ≠ (.slice Ao15 t192.length co15 : Value).ownBlock) ∧ some k_ ≠ (.slice Ao17 t197.length co17 : Value).ownBlock)) (n := t201.length) (c := co22) ?_).2.2; exact (by (with_reducible repeat (first | apply Kd.R_alloc | apply Kd.R_drewN | apply Kd.R_drew)); exact (Kd.R_mono (Kd.R_far (p := ⟨gb208, 2, none⟩) (Kd.R_far (p := ⟨gb208, 1, none⟩) (Kd.R_far (p := ⟨gb208, 0, none⟩) (Kd.R_types HO203.out BK208.out (by decide)) (fun _ hk => hk.2) (.int .i64 t200)) (fun _ hk => hk.2) (.slice Ao22 t201.length co22)) (fun _ hk => hk.2) (.slice Ao23 t204.length co23)) (fun _ h_ => h_.1)))); (case side2 => exact (Kd.R_reads' HO203.out).2.1); (case side3 => refine (Kd.R_reads' (e := 2) (base := w.heap.size) (ok := fun k_ => ((((some k_ ≠ (.slice Ao22 t201.length co22 : Value).ownBlock ∧ some k_ ≠ (.slice Ao10 t185.length co10 : Value).ownBlock) ∧ some k_ ≠ (.slice Ao14 t189.length co14 : Value).ownBlock) ∧ some k_ ≠ (.slice Ao15 t192.length co15 : Value).ownBlock) ∧ some k_ ≠ (.slice Ao17 t197.length co17 : Value).ownBlock)) (n := t204.length) (c := co23) ?_).2.2; exact (by (with_reducible repeat (first | apply Kd.R_alloc | apply Kd.R_drewN | apply Kd.R_drew)); exact (Kd.R_mono (Kd.R_far (p := ⟨gb208, 2, none⟩) (Kd.R_far (p := ⟨gb208, 1, none⟩) (Kd.R_far (p := ⟨gb208, 0, none⟩) (Kd.R_types HO206.out BK208.out (by decide)) (fun _ hk => hk.2) (.int .i64 t200)) (fun _ hk => hk.2) (.slice Ao22 t201.length co22)) (fun _ hk => hk.2) (.slice Ao23 t204.length co23)) (fun _ h_ => h_.1)))); (case side4 => exact (Kd.R_reads' HO206.out).2.1); (case side5 => refine (Kd.R_reads' (e := 2) (base := w.heap.size) (ok := fun k_ => ((((some k_ ≠ (.slice Ao15 t192.length co15 : Value).ownBlock ∧ some k_ ≠ (.slice Ao10 t185.length co10 : Value).ownBlock) ∧ some k_ ≠ (.slice Ao17 t197.length co17 : Value).ownBlock) ∧ some k_ ≠ (.slice Ao22 t201.length co22 : Value).ownBlock) ∧ some k_ ≠ (.slice Ao23 t204.length co23 : Value).ownBlock)) (n := t189.length) (c := co14) ?_).2.2; exact (by (with_reducible repeat (first | apply Kd.R_alloc | apply Kd.R_drewN | apply Kd.R_drew)); exact (Kd.R_mono (Kd.R_far (p := ⟨gb208, 2, none⟩) (Kd.R_far (p := ⟨gb208, 1, none⟩) (Kd.R_far (p := ⟨gb208, 0, none⟩) (Kd.R_types HO191.out BK208.out (by decide)) (fun _ hk => hk.2) (.int .i64 t200)) (fun _ hk => hk.2) (.slice Ao22 t201.length co22)) (fun _ hk => hk.2) (.slice Ao23 t204.length co23)) (fun _ h_ => h_.1)))); (case side6 => exact (Kd.R_reads' HO191.out).2.1); (case side7 => refine (Kd.R_reads' (e := 2) (base := w.heap.size) (ok := fun k_ => ((((some k_ ≠ (.slice Ao14 t189.length co14 : Value).ownBlock ∧ some k_ ≠ (.slice Ao10 t185.length co10 : Value).ownBlock) ∧ some k_ ≠ (.slice Ao17 t197.length co17 : Value).ownBlock) ∧ some k_ ≠ (.slice Ao22 t201.length co22 : Value).ownBlock) ∧ some k_ ≠ (.slice Ao23 t204.length co23 : Value).ownBlock)) (n := t192.length) (c := co15) ?_).2.2; exact (by (with_reducible repeat (first | apply Kd.R_alloc | apply Kd.R_drewN | apply Kd.R_drew)); exact (Kd.R_mono (Kd.R_far (p := ⟨gb208, 2, none⟩) (Kd.R_far (p := ⟨gb208, 1, none⟩) (Kd.R_far (p := ⟨gb208, 0, none⟩) (Kd.R_types HO194.out BK208.out (by decide)) (fun _ hk => hk.2) (.int .i64 t200)) (fun _ hk => hk.2) (.slice Ao22 t201.length co22)) (fun _ hk => hk.2) (.slice Ao23 t204.length co23)) (fun _ h_ => h_.1)))); (case side8 => exact (Kd.R_reads' HO194.out).2.1); rintro e w33 ⟨rfl, hb⟩; refine ⟨_, rfl, ?_⟩; have n0_ := Aside0.mk (Kd.R_below (by (with_reducible repeat (first | apply Kd.R_alloc | apply Kd.R_drewN | apply Kd.R_drew)); exact (Kd.R_mono (Kd.R_far (p := ⟨gb208, 2, none⟩) (Kd.R_far (p := ⟨gb208, 1, none⟩) (Kd.R_far (p := ⟨gb208, 0, none⟩) (Kd.R_types HO187.out BK208.out (by decide)) (fun _ hk => hk.2) (.int .i64 t200)) (fun _ hk => hk.2) (.slice Ao22 t201.length co22)) (fun _ hk => hk.2) (.slice Ao23 t204.length co23)) (fun _ h_ => h_.1))) hb); have n1_ := Aside0.mk (Kd.R_below (by (with_reducible repeat (first | apply Kd.R_alloc | apply Kd.R_drewN | apply Kd.R_drew)); exact (Kd.R_mono (Kd.R_far (p := ⟨gb208, 2, none⟩) (Kd.R_far (p := ⟨gb208, 1, none⟩) (Kd.R_far (p := ⟨gb208, 0, none⟩) (Kd.R_types HO191.out BK208.out (by decide)) (fun _ hk => hk.2) (.int .i64 t200)) (fun _ hk => hk.2) (.slice Ao22 t201.length co22)) (fun _ hk => hk.2) (.slice Ao23 t204.length co23)) (fun _ h_ => h_.1))) hb); have n2_ := Aside0.mk (Kd.R_below (by (with_reducible repeat (first | apply Kd.R_alloc | apply Kd.R_drewN | apply Kd.R_drew)); exact (Kd.R_mono (Kd.R_far (p := ⟨gb208, 2, none⟩) (Kd.R_far (p := ⟨gb208, 1, none⟩) (Kd.R_far (p := ⟨gb208, 0, none⟩) (Kd.R_types HO194.out BK208.out (by decide)) (fun _ hk => hk.2) (.int .i64 t200)) (fun _ hk => hk.2) (.slice Ao22 t201.length co22)) (fun _ hk => hk.2) (.slice Ao23 t204.length co23)) (fun _ h_ => h_.1))) hb); have n3_ := Aside0.mk (Kd.R_below (by (with_reducible repeat (first | apply Kd.R_alloc | apply Kd.R_drewN | apply Kd.R_drew)); exact (Kd.R_mono (Kd.R_far (p := ⟨gb208, 2, none⟩) (Kd.R_far (p := ⟨gb208, 1, none⟩) (Kd.R_far (p := ⟨gb208, 0, none⟩) (Kd.R_types HO199.out BK208.out (by decide)) (fun _ hk => hk.2) (.int .i64 t200)) (fun _ hk => hk.2) (.slice Ao22 t201.length co22)) (fun _ hk => hk.2) (.slice Ao23 t204.length co23)) (fun _ h_ => h_.1))) hb); have n4_ := Aside0.mk (Kd.R_below (by (with_reducible repeat (first | apply Kd.R_alloc | apply Kd.R_drewN | apply Kd.R_drew)); exact (Kd.R_mono (Kd.R_far (p := ⟨gb208, 2, none⟩) (Kd.R_far (p := ⟨gb208, 1, none⟩) (Kd.R_far (p := ⟨gb208, 0, none⟩) (Kd.R_types HO203.out BK208.out (by decide)) (fun _ hk => hk.2) (.int .i64 t200)) (fun _ hk => hk.2) (.slice Ao22 t201.length co22)) (fun _ hk => hk.2) (.slice Ao23 t204.length co23)) (fun _ h_ => h_.1))) hb); have n5_ := Aside0.mk (Kd.R_below (by (with_reducible repeat (first | apply Kd.R_alloc | apply Kd.R_drewN | apply Kd.R_drew)); exact (Kd.R_mono (Kd.R_far (p := ⟨gb208, 2, none⟩) (Kd.R_far (p := ⟨gb208, 1, none⟩) (Kd.R_far (p := ⟨gb208, 0, none⟩) (Kd.R_types HO206.out BK208.out (by decide)) (fun _ hk => hk.2) (.int .i64 t200)) (fun _ hk => hk.2) (.slice Ao22 t201.length co22)) (fun _ hk => hk.2) (.slice Ao23 t204.length co23)) (fun _ h_ => h_.1))) hb); have n6_ := Aside0.mk (blk_below (g := gb196) (o := .cells #[.int .i64 t188, .slice Ao14 t189.length co14, .slice Ao15 t192.length co15] 24 (0, 0)) (by (with_reducible repeat (first | refine blk_drewN ?_ _ | refine blk_drew ?_ | refine blk_alloc ?_ _)); refine blk_far ?_ NB196_208.out _; (with_reducible repeat (first | refine blk_drewN ?_ _ | refine blk_drew ?_ | refine blk_alloc ?_ _)); refine blk_far ?_ NB196_208.out _; (with_reducible repeat (first | refine blk_drewN ?_ _ | refine blk_drew ?_ | refine blk_alloc ?_ _)); refine blk_far ?_ NB196_208.out _; (with_reducible repeat (first | refine blk_drewN ?_ _ | refine blk_drew ?_ | refine blk_alloc ?_ _)); exact BK196.out) hb); have n7_ := Aside0.mk (blk_below (g := gb208) (o := .cells #[.int .i64 t200, .slice Ao22 t201.length co22, .slice Ao23 t204.length co23] 24 (0, 0)) (by (with_reducible repeat (first | refine blk_drewN ?_ _ | refine blk_drew ?_ | refine blk_alloc ?_ _)); refine blk_put (cs := #[.int .i64 t200, .slice Ao22 t201.length co22, .slice none 0 0]) ?_ 2 _ rfl; (with_reducible repeat (first | refine blk_drewN ?_ _ | refine blk_drew ?_ | refine blk_alloc ?_ _)); refine blk_put (cs := #[.int .i64 t200, .slice none 0 0, .slice none 0 0]) ?_ 1 _ rfl; (with_reducible repeat (first | refine blk_drewN ?_ _ | refine blk_drew ?_ | refine blk_alloc ?_ _)); refine blk_put (cs := #[.int .i64 0, .slice none 0 0, .slice none 0 0]) ?_ 0 _ rfl; (with_reducible repeat (first | refine blk_drewN ?_ _ | refine blk_drew ?_ | refine blk_alloc ?_ _)); exact BK208.out) hb); have n8_ := Aside0.mk (below_step (by repeat (first | (with_reducible first | exact HB.out | apply below_alloc | apply pw_below_drewN | apply below_drew1 | refine below_set ?_ GE196.out | refine below_set ?_ GE208.out) | exact HB.out)) hb); clear HO187; clear HO191; clear HO194; clear HO199; clear HO203; clear HO206; clear BK196; clear BK208; clear HB; have HO187 := n0_; have HO191 := n1_; have HO194 := n2_; have HO199 := n3_; have HO203 := n4_; have HO206 := n5_; have BK196 := n6_; have BK208 := n7_; have HB := n8_; clear n0_ n1_ n2_ n3_ n4_ n5_ n6_ n7_ n8_; (try clear hb); (try clear hb2); (try clear hk); (try clear hi)))
        go_meet
        case rel => exact ⟨_, (true), ea_, H', ⟨by first | omega | exact Nat.le_refl _⟩, ⟨by (with_reducible repeat (first | apply Kd.R_alloc | apply Kd.R_drewN | apply Kd.R_drew)); exact Kd.R_mono HO199.out (fun _ hk => ⟨hk.1.1.1.2, ⟨hk.1.1.2, ⟨hk.1.2, hk.2⟩⟩⟩)⟩, ⟨by (with_reducible repeat (first | apply Kd.R_alloc | apply Kd.R_drewN | apply Kd.R_drew)); exact Kd.R_mono HO191.out (fun _ hk => ⟨hk.1.1.2, ⟨hk.1.1.1.1, ⟨hk.1.2, hk.2⟩⟩⟩)⟩, ⟨by (with_reducible repeat (first | apply Kd.R_alloc | apply Kd.R_drewN | apply Kd.R_drew)); exact Kd.R_mono HO194.out (fun _ hk => ⟨hk.1.1.2, ⟨hk.1.1.1.1, ⟨hk.1.2, hk.2⟩⟩⟩)⟩, ⟨by (with_reducible repeat (first | apply Kd.R_alloc | apply Kd.R_drewN | apply Kd.R_drew)); exact Kd.R_mono HO203.out (fun _ hk => ⟨hk.2, ⟨hk.1.1.2, ⟨hk.1.2, hk.1.1.1.1⟩⟩⟩)⟩, ⟨by (with_reducible repeat (first | apply Kd.R_alloc | apply Kd.R_drewN | apply Kd.R_drew)); exact Kd.R_mono HO206.out (fun _ hk => ⟨hk.2, ⟨hk.1.1.2, ⟨hk.1.2, hk.1.1.1.1⟩⟩⟩)⟩, ⟨by (with_reducible repeat (first | refine blk_drewN ?_ _ | refine blk_drew ?_ | refine blk_alloc ?_ _)); exact BK196.out⟩, ⟨by (with_reducible repeat (first | refine blk_drewN ?_ _ | refine blk_drew ?_ | refine blk_alloc ?_ _)); exact BK208.out⟩, ⟨by repeat (first | (with_reducible first | exact HB.out | apply below_alloc | apply pw_below_drewN | apply below_drew1 | refine below_set ?_ GE196.out | refine below_set ?_ GE208.out) | exact HB.out)⟩⟩
    case rest =>
      clear HC8
      try clear c1
      try clear c2
      try clear p2
      try clear c3
      try clear c3b0
      try clear c3b1
      try clear c9
      try clear c10
      try clear c11
      try clear c12
      try clear c20
      try clear c25
      try clear c26
      try clear c30
      try clear hcz13_0
      try clear hcz13_1
      try clear hcz13_2
      try clear hcz21_0
      try clear hcz21_1
      try clear hcz21_2
      try clear hcz27_0
      try clear hcz27_1
      try clear hcz27_2
      try clear hcz28_0
      try clear hcz28_1
      try clear hcz28_2
      try clear hcz31_0
      try clear hcz31_1
      try clear hcz31_2
      try clear hcz32_0
      try clear hcz32_1
      try clear hcz32_2
      try clear hfz13_0
      try clear hfz13_1
      try clear hfz13_2
      try clear hfz21_0
      try clear hfz21_1
      try clear hfz21_2
      try clear hfz27_0
      try clear hfz27_1
      try clear hfz27_2
      try clear hfz28_0
      try clear hfz28_1
      try clear hfz28_2
      try clear hfz31_0
      try clear hfz31_1
      try clear hfz31_2
      try clear hfz32_0
      try clear hfz32_1
      try clear hfz32_2
      obtain ⟨kq, x41_7, rfl, HA, HJ7, HO_7, HO_197001, HO_197002, HO_209001, HO_209002, BK196, BK208, HB⟩ := hcut
      cases kq with
      | zero => exact absurd HA.out (by simp [laws_FnExactJacobiOfSteps.j0])
      | succ kj7 =>
        have H := HA.out
        clear HA
        simp only [laws_FnExactJacobiOfSteps.j0] at H
        by_cases c34 : x41_7 = true
        · subst c34
          have H1 : (some false) = some r := by rw [if_pos rfl] at H; exact H
          clear H
          have H := H1
          clear H1
          obtain rfl := Option.some.inj H
          go_wp2
          go_ret
          exact ⟨by first | rfl | (simp [errW_none, errW_some] <;> rfl) | (simp [*, errW_none, errW_some] <;> rfl), by repeat (first | (with_reducible first | exact HB.out | apply below_alloc | apply pw_below_drewN | apply below_drew1 | refine below_set ?_ GE196.out | refine below_set ?_ GE208.out) | exact HB.out)⟩
        · replace c34 := Bool.eq_false_iff.mpr c34
          subst c34
          have H1 : ((laws_toInt64S.f kj7 l1).bind fun t210 => ((laws_eqInt64S.f kj7 t197 t210).bind fun t213 => (if t213 = true then ((laws_markInt64S.f kj7 t197 1).bind fun bt214 => (if bt214.1 < 0 then (laws_FnExactJacobiOfSteps.j1 kj7 a0 l1 t195 true t188 t189 t192 t200 t201 t204) else ((laws_eqJacobi.f kj7 t200 t201 t204 t188 t189 t192).bind fun t216 => (if t216 = true then (laws_FnExactJacobiOfSteps.j1 kj7 a0 l1 t195 (t207 != t195) t188 t189 t192 t200 t201 t204) else (laws_FnExactJacobiOfSteps.j1 kj7 a0 l1 t195 true t188 t189 t192 t200 t201 t204))))) else (some false)))) = some r := by rw [if_neg (show ¬ (false = true) by decide)] at H; exact H
          clear H
          have H := H1
          clear H1
          replace H := Option.bind_eq_some_iff.mp H
          obtain ⟨t210, A350, H⟩ := H
          have A35 := Aside0.mk A350
          clear A350
          replace H := Option.bind_eq_some_iff.mp H
          obtain ⟨t213, A360, H⟩ := H
          have A36 := Aside0.mk A360
          clear A360
          by_cases c37 : t213 = true
          · subst c37
            have H1 : ((laws_markInt64S.f kj7 t197 1).bind fun bt214 => (if bt214.1 < 0 then (laws_FnExactJacobiOfSteps.j1 kj7 a0 l1 t195 true t188 t189 t192 t200 t201 t204) else ((laws_eqJacobi.f kj7 t200 t201 t204 t188 t189 t192).bind fun t216 => (if t216 = true then (laws_FnExactJacobiOfSteps.j1 kj7 a0 l1 t195 (t207 != t195) t188 t189 t192 t200 t201 t204) else (laws_FnExactJacobiOfSteps.j1 kj7 a0 l1 t195 true t188 t189 t192 t200 t201 t204))))) = some r := by rw [if_pos rfl] at H; exact H
            clear H
            have H := H1
            clear H1
            replace H := Option.bind_eq_some_iff.mp H
            obtain ⟨⟨t214, t215⟩, A380, H⟩ := H
            have A38 := Aside0.mk A380
            clear A380
            have HC39 := Aside0.mk H
            clear H
            go_upto_region 12 with (first | ((with_reducible refine gate_callee (f := 10) rfl ?_); refine goesM_ (some 44) rfl rfl Try.func10 #[.slice A1 l1.length c1] rfl ?_; (with_reducible refine (laws_toInt64S.calls kj7 _ _ l1 t210 _ ?side1 ?side2 A35.out).mono ?_); (case side1 => exact cs ((Kd.C_below HR1.out HB.out))); (case side2 => exact HC1.out); rintro e w40 ⟨v211, rfl, ho0, hb⟩; refine ⟨_, rfl, ?_⟩; have n0_ := Aside0.mk (Kd.R_elder' (rs HO_7) (Kd.R_base ho0) hb); have n1_ := Aside0.mk (Kd.R_elder' (rs HO_197001) (Kd.R_base ho0) hb); have n2_ := Aside0.mk (Kd.R_elder' (rs HO_197002) (Kd.R_base ho0) hb); have n3_ := Aside0.mk (Kd.R_elder' (rs HO_209001) (Kd.R_base ho0) hb); have n4_ := Aside0.mk (Kd.R_elder' (rs HO_209002) (Kd.R_base ho0) hb); have n5_ := Aside0.mk (Kd.R_lower (Kd.R_new' (Kd.R_new' (Kd.R_new' (Kd.R_new' (Kd.R_new' ho0 (Kd.R_lt (rs HO_7))) (Kd.R_lt (rs HO_197001))) (Kd.R_lt (rs HO_197002))) (Kd.R_lt (rs HO_209001))) (Kd.R_lt (rs HO_209002))) (below_size (by repeat (first | (with_reducible first | exact HB.out | apply below_alloc | apply pw_below_drewN | apply below_drew1 | refine below_set ?_ GE196.out | refine below_set ?_ GE208.out) | exact HB.out)))); have n6_ := Aside0.mk (blk_below (g := gb196) (o := .cells #[.int .i64 t188, .slice Ao14 t189.length co14, .slice Ao15 t192.length co15] 24 (0, 0)) (by (with_reducible repeat (first | refine blk_drewN ?_ _ | refine blk_drew ?_ | refine blk_alloc ?_ _)); exact BK196.out) hb); have n7_ := Aside0.mk (blk_below (g := gb208) (o := .cells #[.int .i64 t200, .slice Ao22 t201.length co22, .slice Ao23 t204.length co23] 24 (0, 0)) (by (with_reducible repeat (first | refine blk_drewN ?_ _ | refine blk_drew ?_ | refine blk_alloc ?_ _)); exact BK208.out) hb); have n8_ := Aside0.mk (below_step (by repeat (first | (with_reducible first | exact HB.out | apply below_alloc | apply pw_below_drewN | apply below_drew1 | refine below_set ?_ GE196.out | refine below_set ?_ GE208.out) | exact HB.out)) hb); clear HO_7; clear HO_197001; clear HO_197002; clear HO_209001; clear HO_209002; clear BK196; clear BK208; clear HB; have HO_7 := n0_; have HO_197001 := n1_; have HO_197002 := n2_; have HO_209001 := n3_; have HO_209002 := n4_; have HO212 := n5_; have BK196 := n6_; have BK208 := n7_; have HB := n8_; clear n0_ n1_ n2_ n3_ n4_ n5_ n6_ n7_ n8_; (try clear hb); (try clear hb2); (try clear hk); (try clear hi); (try clear ho0); obtain ⟨Ao41, co41, eo41⟩ := Kd.R_slice HO212.out; subst eo41) | ((with_reducible refine gate_callee (f := 13) rfl ?_); refine goesM_ (some 45) rfl rfl Try.func13 #[.slice Ao17 t197.length co17, .slice Ao41 t210.length co41] rfl ?_; (with_reducible refine (laws_eqInt64S.calls kj7 _ _ t197 _ _ t210 true _ ?side1 ?side2 ?side3 ?side4 A36.out).mono ?_); (case side1 => exact cs ((Kd.R_reads' HO_7.out).2.2)); (case side2 => exact (Kd.R_reads' HO_7.out).2.1); (case side3 => exact cs ((Kd.R_reads' HO212.out).2.2)); (case side4 => exact (Kd.R_reads' HO212.out).2.1); rintro e w' ⟨rfl, ⟨nd, rfl⟩⟩; refine ⟨_, rfl, ?_⟩) | ((with_reducible refine gate_callee (f := 14) rfl ?_); refine goesM_ (some 49) rfl rfl Try.func14 #[.slice Ao17 t197.length co17, .int .i64 1] rfl ?_; (with_reducible refine (laws_markInt64S.calls kj7 (fun k_ => some k_ = (.slice Ao17 t197.length co17 : Value).ownBlock) (.slice Ao17 t197.length co17) t197 1 t214 t215 w _ ?side1 ?side2 A38.out).mono ?_); (case side1 => repeat (first | (with_reducible first | exact HB.out | apply below_alloc | apply pw_below_drewN | apply below_drew1 | refine below_set ?_ GE196.out | refine below_set ?_ GE208.out) | exact HB.out)); (case side2 => exact Kd.R_tight rfl HO_7.out); rintro e w42 ⟨rfl, hy0, hb, hkp⟩; refine ⟨_, rfl, ?_⟩; have n0_ := Aside0.mk (Kd.R_reok rfl hy0 (fun k_ e_ => HO_7.out.1 k_ e_)); have n1_ := Aside0.mk (Kd.R_mono (ok' := fun k_ => some k_ ≠ (.slice Ao17 t197.length co17 : Value).ownBlock ∧ some k_ ≠ (.slice Ao15 t192.length co15 : Value).ownBlock ∧ some k_ ≠ (.slice Ao22 t201.length co22 : Value).ownBlock ∧ some k_ ≠ (.slice Ao23 t204.length co23 : Value).ownBlock ∧ some k_ ≠ (.slice Ao41 t210.length co41 : Value).ownBlock) (Kd.R_keptB (HO_197001.out) hkp (fun k_ hk_ hs_ => (hk_.1.1) hs_)) (fun k_ hk_ => ⟨hk_.1.1.1, hk_.1.1.2.1, hk_.1.1.2.2.1, hk_.1.1.2.2.2, hk_.1.2⟩)); have n2_ := Aside0.mk (Kd.R_mono (ok' := fun k_ => some k_ ≠ (.slice Ao17 t197.length co17 : Value).ownBlock ∧ some k_ ≠ (.slice Ao14 t189.length co14 : Value).ownBlock ∧ some k_ ≠ (.slice Ao22 t201.length co22 : Value).ownBlock ∧ some k_ ≠ (.slice Ao23 t204.length co23 : Value).ownBlock ∧ some k_ ≠ (.slice Ao41 t210.length co41 : Value).ownBlock) (Kd.R_keptB (HO_197002.out) hkp (fun k_ hk_ hs_ => (hk_.1.1) hs_)) (fun k_ hk_ => ⟨hk_.1.1.1, hk_.1.1.2.1, hk_.1.1.2.2.1, hk_.1.1.2.2.2, hk_.1.2⟩)); have n3_ := Aside0.mk (Kd.R_mono (ok' := fun k_ => some k_ ≠ (.slice Ao17 t197.length co17 : Value).ownBlock ∧ some k_ ≠ (.slice Ao14 t189.length co14 : Value).ownBlock ∧ some k_ ≠ (.slice Ao15 t192.length co15 : Value).ownBlock ∧ some k_ ≠ (.slice Ao23 t204.length co23 : Value).ownBlock ∧ some k_ ≠ (.slice Ao41 t210.length co41 : Value).ownBlock) (Kd.R_keptB (HO_209001.out) hkp (fun k_ hk_ hs_ => (hk_.1.1) hs_)) (fun k_ hk_ => ⟨hk_.1.1.1, hk_.1.1.2.1, hk_.1.1.2.2.1, hk_.1.1.2.2.2, hk_.1.2⟩)); have n4_ := Aside0.mk (Kd.R_mono (ok' := fun k_ => some k_ ≠ (.slice Ao17 t197.length co17 : Value).ownBlock ∧ some k_ ≠ (.slice Ao14 t189.length co14 : Value).ownBlock ∧ some k_ ≠ (.slice Ao15 t192.length co15 : Value).ownBlock ∧ some k_ ≠ (.slice Ao22 t201.length co22 : Value).ownBlock ∧ some k_ ≠ (.slice Ao41 t210.length co41 : Value).ownBlock) (Kd.R_keptB (HO_209002.out) hkp (fun k_ hk_ hs_ => (hk_.1.1) hs_)) (fun k_ hk_ => ⟨hk_.1.1.1, hk_.1.1.2.1, hk_.1.1.2.2.1, hk_.1.1.2.2.2, hk_.1.2⟩)); have n5_ := Aside0.mk (blk_kept (by (with_reducible repeat (first | refine blk_drewN ?_ _ | refine blk_drew ?_ | refine blk_alloc ?_ _)); exact BK196.out) hkp (fun hs_ => (fun e_ => (Kd.R_ne HO_7.out BK196.out (by decide)) e_) hs_)); have n6_ := Aside0.mk (blk_kept (by (with_reducible repeat (first | refine blk_drewN ?_ _ | refine blk_drew ?_ | refine blk_alloc ?_ _)); exact BK208.out) hkp (fun hs_ => (fun e_ => (Kd.R_ne HO_7.out BK208.out (by decide)) e_) hs_)); have n7_ := Aside0.mk (Kd.R_mono (ok' := fun k_ => some k_ ≠ (.slice Ao17 t197.length co17 : Value).ownBlock ∧ some k_ ≠ (.slice Ao14 t189.length co14 : Value).ownBlock ∧ some k_ ≠ (.slice Ao15 t192.length co15 : Value).ownBlock ∧ some k_ ≠ (.slice Ao22 t201.length co22 : Value).ownBlock ∧ some k_ ≠ (.slice Ao23 t204.length co23 : Value).ownBlock) (Kd.R_keptB (HO212.out) hkp (fun k_ hk_ hs_ => (hk_.1.1.1.1.2) hs_)) (fun k_ hk_ => ⟨hk_.1.1.1.1.1.2, hk_.1.1.1.1.2, hk_.1.1.1.2, hk_.1.1.2, hk_.1.2⟩)); have n8_ := Aside0.mk (hb); clear HO_7; clear HO_197001; clear HO_197002; clear HO_209001; clear HO_209002; clear BK196; clear BK208; clear HO212; clear HB; have HO_7 := n0_; have HO_197001 := n1_; have HO_197002 := n2_; have HO_209001 := n3_; have HO_209002 := n4_; have BK196 := n5_; have BK208 := n6_; have HO212 := n7_; have HB := n8_; clear n0_ n1_ n2_ n3_ n4_ n5_ n6_ n7_ n8_; (try clear hb); (try clear hkp); (try clear hy0)))
            (try simp only [Act.put, List.setIfInBounds_toArray, List.set_cons_zero, List.set_cons_succ])
            go_cut [62] (fun v62 wc => ∃ (kq : Nat) (x62_38 : Bool), v62 = .bool x62_38 ∧ Aside0 (laws_FnExactJacobiOfSteps.j1 kq a0 l1 t195 x62_38 t188 t189 t192 t200 t201 t204 = some r) ∧ Aside0 (kq ≤ kj7) ∧ Aside0 (Kd.R (Kd.int .i64) 2 wc w.heap.size (fun k_ => some k_ ≠ ((.slice Ao15 t192.length co15) : Value).ownBlock ∧ some k_ ≠ ((.slice Ao22 t201.length co22) : Value).ownBlock ∧ some k_ ≠ ((.slice Ao23 t204.length co23) : Value).ownBlock) (.slice Ao14 t189.length co14) t189) ∧ Aside0 (Kd.R (Kd.int .i64) 2 wc w.heap.size (fun k_ => some k_ ≠ ((.slice Ao14 t189.length co14) : Value).ownBlock ∧ some k_ ≠ ((.slice Ao22 t201.length co22) : Value).ownBlock ∧ some k_ ≠ ((.slice Ao23 t204.length co23) : Value).ownBlock) (.slice Ao15 t192.length co15) t192) ∧ Aside0 (Kd.R (Kd.int .i64) 2 wc w.heap.size (fun k_ => some k_ ≠ ((.slice Ao14 t189.length co14) : Value).ownBlock ∧ some k_ ≠ ((.slice Ao15 t192.length co15) : Value).ownBlock ∧ some k_ ≠ ((.slice Ao23 t204.length co23) : Value).ownBlock) (.slice Ao22 t201.length co22) t201) ∧ Aside0 (Kd.R (Kd.int .i64) 2 wc w.heap.size (fun k_ => some k_ ≠ ((.slice Ao14 t189.length co14) : Value).ownBlock ∧ some k_ ≠ ((.slice Ao15 t192.length co15) : Value).ownBlock ∧ some k_ ≠ ((.slice Ao22 t201.length co22) : Value).ownBlock) (.slice Ao23 t204.length co23) t204) ∧ Aside0 (wc.heap[gb196]? = some (.cells #[.int .i64 t188, (.slice Ao14 t189.length co14), (.slice Ao15 t192.length co15)] 24 (0, 0))) ∧ Aside0 (wc.heap[gb208]? = some (.cells #[.int .i64 t200, (.slice Ao22 t201.length co22), (.slice Ao23 t204.length co23)] 24 (0, 0))) ∧ Aside0 (Below w.heap.size w wc))
            case first =>
              have H := HC39.out
              clear HC39
              by_cases c43 : t214 < 0
              · rw [if_pos c43] at H
                have c43b0 : decide (t214 < 0) = true := decide_eq_true c43
                clear c43
                (first | rw [c43b0] | (simp only [i64_w, i32_w]; rw [c43b0]) | skip)
                have H' := Aside0.mk H
                clear H
                go_wp2
                go_meet
                case rel => exact ⟨_, (true), ea_, H', ⟨by have := HJ7.out; first | omega | exact Nat.le_refl _⟩, ⟨by (with_reducible repeat (first | apply Kd.R_alloc | apply Kd.R_drewN | apply Kd.R_drew)); exact Kd.R_mono HO_197001.out (fun _ hk => ⟨hk.2.1, ⟨hk.2.2.1, hk.2.2.2.1⟩⟩)⟩, ⟨by (with_reducible repeat (first | apply Kd.R_alloc | apply Kd.R_drewN | apply Kd.R_drew)); exact Kd.R_mono HO_197002.out (fun _ hk => ⟨hk.2.1, ⟨hk.2.2.1, hk.2.2.2.1⟩⟩)⟩, ⟨by (with_reducible repeat (first | apply Kd.R_alloc | apply Kd.R_drewN | apply Kd.R_drew)); exact Kd.R_mono HO_209001.out (fun _ hk => ⟨hk.2.1, ⟨hk.2.2.1, hk.2.2.2.1⟩⟩)⟩, ⟨by (with_reducible repeat (first | apply Kd.R_alloc | apply Kd.R_drewN | apply Kd.R_drew)); exact Kd.R_mono HO_209002.out (fun _ hk => ⟨hk.2.1, ⟨hk.2.2.1, hk.2.2.2.1⟩⟩)⟩, ⟨by (with_reducible repeat (first | refine blk_drewN ?_ _ | refine blk_drew ?_ | refine blk_alloc ?_ _)); exact BK196.out⟩, ⟨by (with_reducible repeat (first | refine blk_drewN ?_ _ | refine blk_drew ?_ | refine blk_alloc ?_ _)); exact BK208.out⟩, ⟨by repeat (first | (with_reducible first | exact HB.out | apply below_alloc | apply pw_below_drewN | apply below_drew1 | refine below_set ?_ GE196.out | refine below_set ?_ GE208.out) | exact HB.out)⟩⟩
              · rw [if_neg c43] at H
                have c43b0 : decide (t214 < 0) = false := decide_eq_false c43
                clear c43
                (first | rw [c43b0] | (simp only [i64_w, i32_w]; rw [c43b0]) | skip)
                replace H := Option.bind_eq_some_iff.mp H
                obtain ⟨t216, A440, H⟩ := H
                have A44 := Aside0.mk A440
                clear A440
                by_cases c45 : t216 = true
                · subst c45
                  have H1 : (laws_FnExactJacobiOfSteps.j1 kj7 a0 l1 t195 (t207 != t195) t188 t189 t192 t200 t201 t204) = some r := by rw [if_pos rfl] at H; exact H
                  clear H
                  have H := H1
                  clear H1
                  have H' := Aside0.mk H
                  clear H
                  have hnb46 := NB208_196.out
                  have hnc46 := NB196_208.out
                  have hcz47_0 : w42.cell? ⟨gb208, 0, none⟩ = some (.int .i64 t200) := (blk_cell BK208.out 0).trans rfl
                  have hcz47_1 : w42.cell? ⟨gb208, 1, none⟩ = some (.slice Ao22 t201.length co22) := (blk_cell BK208.out 1).trans rfl
                  have hcz47_2 : w42.cell? ⟨gb208, 2, none⟩ = some (.slice Ao23 t204.length co23) := (blk_cell BK208.out 2).trans rfl
                  have hfz47_0 := blk_frozen BK208.out 0
                  have hfz47_1 := blk_frozen BK208.out 1
                  have hfz47_2 := blk_frozen BK208.out 2
                  have hcz48_0 : w42.cell? ⟨gb196, 0, none⟩ = some (.int .i64 t188) := (blk_cell BK196.out 0).trans rfl
                  have hcz48_1 : w42.cell? ⟨gb196, 1, none⟩ = some (.slice Ao14 t189.length co14) := (blk_cell BK196.out 1).trans rfl
                  have hcz48_2 : w42.cell? ⟨gb196, 2, none⟩ = some (.slice Ao15 t192.length co15) := (blk_cell BK196.out 2).trans rfl
                  have hfz48_0 := blk_frozen BK196.out 0
                  have hfz48_1 := blk_frozen BK196.out 1
                  have hfz48_2 := blk_frozen BK196.out 2
                  go_wp2_with (first | (go_at_call 12; (with_reducible refine (laws_eqJacobi.calls kj7 t200 _ _ t201 _ _ t204 t188 _ _ t189 _ _ t192 true _ ?side1 ?side2 ?side3 ?side4 ?side5 ?side6 ?side7 ?side8 A44.out).mono ?_); (case side1 => exact cs ((Kd.R_reads' HO_209001.out).2.2)); (case side2 => exact (Kd.R_reads' HO_209001.out).2.1); (case side3 => exact cs ((Kd.R_reads' HO_209002.out).2.2)); (case side4 => exact (Kd.R_reads' HO_209002.out).2.1); (case side5 => exact cs ((Kd.R_reads' HO_197001.out).2.2)); (case side6 => exact (Kd.R_reads' HO_197001.out).2.1); (case side7 => exact cs ((Kd.R_reads' HO_197002.out).2.2)); (case side8 => exact (Kd.R_reads' HO_197002.out).2.1); rintro e w49 ⟨rfl, hb⟩; have n0_ := Aside0.mk (Kd.R_below (rs HO_7) hb); have n1_ := Aside0.mk (Kd.R_below (rs HO_197001) hb); have n2_ := Aside0.mk (Kd.R_below (rs HO_197002) hb); have n3_ := Aside0.mk (Kd.R_below (rs HO_209001) hb); have n4_ := Aside0.mk (Kd.R_below (rs HO_209002) hb); have n5_ := Aside0.mk (Kd.R_below (rs HO212) hb); have n6_ := Aside0.mk (blk_below (g := gb196) (o := .cells #[.int .i64 t188, .slice Ao14 t189.length co14, .slice Ao15 t192.length co15] 24 (0, 0)) (by (with_reducible repeat (first | refine blk_drewN ?_ _ | refine blk_drew ?_ | refine blk_alloc ?_ _)); exact BK196.out) hb); have n7_ := Aside0.mk (blk_below (g := gb208) (o := .cells #[.int .i64 t200, .slice Ao22 t201.length co22, .slice Ao23 t204.length co23] 24 (0, 0)) (by (with_reducible repeat (first | refine blk_drewN ?_ _ | refine blk_drew ?_ | refine blk_alloc ?_ _)); exact BK208.out) hb); have n8_ := Aside0.mk (below_step (by repeat (first | (with_reducible first | exact HB.out | apply below_alloc | apply pw_below_drewN | apply below_drew1 | refine below_set ?_ GE196.out | refine below_set ?_ GE208.out) | exact HB.out)) hb); clear HO_7; clear HO_197001; clear HO_197002; clear HO_209001; clear HO_209002; clear HO212; clear BK196; clear BK208; clear HB; have HO_7 := n0_; have HO_197001 := n1_; have HO_197002 := n2_; have HO_209001 := n3_; have HO_209002 := n4_; have HO212 := n5_; have BK196 := n6_; have BK208 := n7_; have HB := n8_; clear n0_ n1_ n2_ n3_ n4_ n5_ n6_ n7_ n8_; (try clear hb); (try clear hb2); (try clear hk); (try clear hi)))
                  go_meet
                  case rel => exact ⟨_, ((t207 != t195)), ea_, H', ⟨by have := HJ7.out; first | omega | exact Nat.le_refl _⟩, ⟨by (with_reducible repeat (first | apply Kd.R_alloc | apply Kd.R_drewN | apply Kd.R_drew)); exact Kd.R_mono HO_197001.out (fun _ hk => ⟨hk.2.1, ⟨hk.2.2.1, hk.2.2.2.1⟩⟩)⟩, ⟨by (with_reducible repeat (first | apply Kd.R_alloc | apply Kd.R_drewN | apply Kd.R_drew)); exact Kd.R_mono HO_197002.out (fun _ hk => ⟨hk.2.1, ⟨hk.2.2.1, hk.2.2.2.1⟩⟩)⟩, ⟨by (with_reducible repeat (first | apply Kd.R_alloc | apply Kd.R_drewN | apply Kd.R_drew)); exact Kd.R_mono HO_209001.out (fun _ hk => ⟨hk.2.1, ⟨hk.2.2.1, hk.2.2.2.1⟩⟩)⟩, ⟨by (with_reducible repeat (first | apply Kd.R_alloc | apply Kd.R_drewN | apply Kd.R_drew)); exact Kd.R_mono HO_209002.out (fun _ hk => ⟨hk.2.1, ⟨hk.2.2.1, hk.2.2.2.1⟩⟩)⟩, ⟨by (with_reducible repeat (first | refine blk_drewN ?_ _ | refine blk_drew ?_ | refine blk_alloc ?_ _)); exact BK196.out⟩, ⟨by (with_reducible repeat (first | refine blk_drewN ?_ _ | refine blk_drew ?_ | refine blk_alloc ?_ _)); exact BK208.out⟩, ⟨by repeat (first | (with_reducible first | exact HB.out | apply below_alloc | apply pw_below_drewN | apply below_drew1 | refine below_set ?_ GE196.out | refine below_set ?_ GE208.out) | exact HB.out)⟩⟩
                · replace c45 := Bool.eq_false_iff.mpr c45
                  subst c45
                  have H1 : (laws_FnExactJacobiOfSteps.j1 kj7 a0 l1 t195 true t188 t189 t192 t200 t201 t204) = some r := by rw [if_neg (show ¬ (false = true) by decide)] at H; exact H
                  clear H
                  have H := H1
                  clear H1
                  have H' := Aside0.mk H
                  clear H
                  have hnb50 := NB208_196.out
                  have hnc50 := NB196_208.out
                  have hcz51_0 : w42.cell? ⟨gb208, 0, none⟩ = some (.int .i64 t200) := (blk_cell BK208.out 0).trans rfl
                  have hcz51_1 : w42.cell? ⟨gb208, 1, none⟩ = some (.slice Ao22 t201.length co22) := (blk_cell BK208.out 1).trans rfl
                  have hcz51_2 : w42.cell? ⟨gb208, 2, none⟩ = some (.slice Ao23 t204.length co23) := (blk_cell BK208.out 2).trans rfl
                  have hfz51_0 := blk_frozen BK208.out 0
                  have hfz51_1 := blk_frozen BK208.out 1
                  have hfz51_2 := blk_frozen BK208.out 2
                  have hcz52_0 : w42.cell? ⟨gb196, 0, none⟩ = some (.int .i64 t188) := (blk_cell BK196.out 0).trans rfl
                  have hcz52_1 : w42.cell? ⟨gb196, 1, none⟩ = some (.slice Ao14 t189.length co14) := (blk_cell BK196.out 1).trans rfl
                  have hcz52_2 : w42.cell? ⟨gb196, 2, none⟩ = some (.slice Ao15 t192.length co15) := (blk_cell BK196.out 2).trans rfl
                  have hfz52_0 := blk_frozen BK196.out 0
                  have hfz52_1 := blk_frozen BK196.out 1
                  have hfz52_2 := blk_frozen BK196.out 2
                  go_wp2_with (first | (go_at_call 12; (with_reducible refine (laws_eqJacobi.calls kj7 t200 _ _ t201 _ _ t204 t188 _ _ t189 _ _ t192 false _ ?side1 ?side2 ?side3 ?side4 ?side5 ?side6 ?side7 ?side8 A44.out).mono ?_); (case side1 => exact cs ((Kd.R_reads' HO_209001.out).2.2)); (case side2 => exact (Kd.R_reads' HO_209001.out).2.1); (case side3 => exact cs ((Kd.R_reads' HO_209002.out).2.2)); (case side4 => exact (Kd.R_reads' HO_209002.out).2.1); (case side5 => exact cs ((Kd.R_reads' HO_197001.out).2.2)); (case side6 => exact (Kd.R_reads' HO_197001.out).2.1); (case side7 => exact cs ((Kd.R_reads' HO_197002.out).2.2)); (case side8 => exact (Kd.R_reads' HO_197002.out).2.1); rintro e w53 ⟨rfl, hb⟩; have n0_ := Aside0.mk (Kd.R_below (rs HO_7) hb); have n1_ := Aside0.mk (Kd.R_below (rs HO_197001) hb); have n2_ := Aside0.mk (Kd.R_below (rs HO_197002) hb); have n3_ := Aside0.mk (Kd.R_below (rs HO_209001) hb); have n4_ := Aside0.mk (Kd.R_below (rs HO_209002) hb); have n5_ := Aside0.mk (Kd.R_below (rs HO212) hb); have n6_ := Aside0.mk (blk_below (g := gb196) (o := .cells #[.int .i64 t188, .slice Ao14 t189.length co14, .slice Ao15 t192.length co15] 24 (0, 0)) (by (with_reducible repeat (first | refine blk_drewN ?_ _ | refine blk_drew ?_ | refine blk_alloc ?_ _)); exact BK196.out) hb); have n7_ := Aside0.mk (blk_below (g := gb208) (o := .cells #[.int .i64 t200, .slice Ao22 t201.length co22, .slice Ao23 t204.length co23] 24 (0, 0)) (by (with_reducible repeat (first | refine blk_drewN ?_ _ | refine blk_drew ?_ | refine blk_alloc ?_ _)); exact BK208.out) hb); have n8_ := Aside0.mk (below_step (by repeat (first | (with_reducible first | exact HB.out | apply below_alloc | apply pw_below_drewN | apply below_drew1 | refine below_set ?_ GE196.out | refine below_set ?_ GE208.out) | exact HB.out)) hb); clear HO_7; clear HO_197001; clear HO_197002; clear HO_209001; clear HO_209002; clear HO212; clear BK196; clear BK208; clear HB; have HO_7 := n0_; have HO_197001 := n1_; have HO_197002 := n2_; have HO_209001 := n3_; have HO_209002 := n4_; have HO212 := n5_; have BK196 := n6_; have BK208 := n7_; have HB := n8_; clear n0_ n1_ n2_ n3_ n4_ n5_ n6_ n7_ n8_; (try clear hb); (try clear hb2); (try clear hk); (try clear hi)))
                  go_meet
                  case rel => exact ⟨_, (true), ea_, H', ⟨by have := HJ7.out; first | omega | exact Nat.le_refl _⟩, ⟨by (with_reducible repeat (first | apply Kd.R_alloc | apply Kd.R_drewN | apply Kd.R_drew)); exact Kd.R_mono HO_197001.out (fun _ hk => ⟨hk.2.1, ⟨hk.2.2.1, hk.2.2.2.1⟩⟩)⟩, ⟨by (with_reducible repeat (first | apply Kd.R_alloc | apply Kd.R_drewN | apply Kd.R_drew)); exact Kd.R_mono HO_197002.out (fun _ hk => ⟨hk.2.1, ⟨hk.2.2.1, hk.2.2.2.1⟩⟩)⟩, ⟨by (with_reducible repeat (first | apply Kd.R_alloc | apply Kd.R_drewN | apply Kd.R_drew)); exact Kd.R_mono HO_209001.out (fun _ hk => ⟨hk.2.1, ⟨hk.2.2.1, hk.2.2.2.1⟩⟩)⟩, ⟨by (with_reducible repeat (first | apply Kd.R_alloc | apply Kd.R_drewN | apply Kd.R_drew)); exact Kd.R_mono HO_209002.out (fun _ hk => ⟨hk.2.1, ⟨hk.2.2.1, hk.2.2.2.1⟩⟩)⟩, ⟨by (with_reducible repeat (first | refine blk_drewN ?_ _ | refine blk_drew ?_ | refine blk_alloc ?_ _)); exact BK196.out⟩, ⟨by (with_reducible repeat (first | refine blk_drewN ?_ _ | refine blk_drew ?_ | refine blk_alloc ?_ _)); exact BK208.out⟩, ⟨by repeat (first | (with_reducible first | exact HB.out | apply below_alloc | apply pw_below_drewN | apply below_drew1 | refine below_set ?_ GE196.out | refine below_set ?_ GE208.out) | exact HB.out)⟩⟩
            case rest =>
              clear HC39
              try clear c1
              try clear c2
              try clear p2
              try clear c3
              try clear c3b0
              try clear c3b1
              try clear c4
              try clear c5
              try clear c9
              try clear c10
              try clear c11
              try clear c12
              try clear c13
              try clear c14
              try clear c20
              try clear c25
              try clear c26
              try clear c30
              try clear c34
              try clear c37
              try clear c43
              try clear c43b0
              try clear c45
              try clear c46
              try clear c50
              try clear hcz13_0
              try clear hcz13_1
              try clear hcz13_2
              try clear hcz21_0
              try clear hcz21_1
              try clear hcz21_2
              try clear hcz27_0
              try clear hcz27_1
              try clear hcz27_2
              try clear hcz28_0
              try clear hcz28_1
              try clear hcz28_2
              try clear hcz31_0
              try clear hcz31_1
              try clear hcz31_2
              try clear hcz32_0
              try clear hcz32_1
              try clear hcz32_2
              try clear hcz47_0
              try clear hcz47_1
              try clear hcz47_2
              try clear hcz48_0
              try clear hcz48_1
              try clear hcz48_2
              try clear hcz51_0
              try clear hcz51_1
              try clear hcz51_2
              try clear hcz52_0
              try clear hcz52_1
              try clear hcz52_2
              try clear hfz13_0
              try clear hfz13_1
              try clear hfz13_2
              try clear hfz21_0
              try clear hfz21_1
              try clear hfz21_2
              try clear hfz27_0
              try clear hfz27_1
              try clear hfz27_2
              try clear hfz28_0
              try clear hfz28_1
              try clear hfz28_2
              try clear hfz31_0
              try clear hfz31_1
              try clear hfz31_2
              try clear hfz32_0
              try clear hfz32_1
              try clear hfz32_2
              try clear hfz47_0
              try clear hfz47_1
              try clear hfz47_2
              try clear hfz48_0
              try clear hfz48_1
              try clear hfz48_2
              try clear hfz51_0
              try clear hfz51_1
              try clear hfz51_2
              try clear hfz52_0
              try clear hfz52_1
              try clear hfz52_2
              try clear p2
              obtain ⟨kq, x62_38, rfl, HA, HJ38, HO_197001, HO_197002, HO_209001, HO_209002, BK196, BK208, HB⟩ := hcut
              cases kq with
              | zero => exact absurd HA.out (by simp [laws_FnExactJacobiOfSteps.j1])
              | succ kj38 =>
                have H := HA.out
                clear HA
                simp only [laws_FnExactJacobiOfSteps.j1] at H
                by_cases c54 : x62_38 = true
                · subst c54
                  have H1 : (some false) = some r := by rw [if_pos rfl] at H; exact H
                  clear H
                  have H := H1
                  clear H1
                  obtain rfl := Option.some.inj H
                  go_wp2
                  go_ret
                  exact ⟨by first | rfl | (simp [errW_none, errW_some] <;> rfl) | (simp [*, errW_none, errW_some] <;> rfl), by repeat (first | (with_reducible first | exact HB.out | apply below_alloc | apply pw_below_drewN | apply below_drew1 | refine below_set ?_ GE196.out | refine below_set ?_ GE208.out) | exact HB.out)⟩
                · replace c54 := Bool.eq_false_iff.mpr c54
                  subst c54
                  have H1 : ((laws_markJacobi.f kj38 t200 t201 t204 1).bind fun bt217 => ((laws_heldJacobi.f kj38 t200 bt217.2.1 bt217.2.2 1).bind fun t220 => (if t220 < 0 then (some false) else (if t220 = bt217.1 then ((laws_toInt64S.f kj38 l1).bind fun t221 => ((impl_JacobiOfSteps.f kj38 a0 t221).bind fun bt224 => ((laws_eqJacobi.f kj38 bt224.1 bt224.2.1 bt224.2.2.1 t188 t189 t192).bind fun t233 => (if t233 = true then (laws_FnExactJacobiOfSteps.j2 kj38 bt217.1 (bt224.2.2.2 != t195) t200 bt217.2.1 bt217.2.2) else (laws_FnExactJacobiOfSteps.j2 kj38 bt217.1 true t200 bt217.2.1 bt217.2.2))))) else (some false))))) = some r := by rw [if_neg (show ¬ (false = true) by decide)] at H; exact H
                  clear H
                  have H := H1
                  clear H1
                  replace H := Option.bind_eq_some_iff.mp H
                  obtain ⟨⟨t217, t218, t219⟩, A550, H⟩ := H
                  have A55 := Aside0.mk A550
                  clear A550
                  replace H := Option.bind_eq_some_iff.mp H
                  obtain ⟨t220, A560, H⟩ := H
                  have A56 := Aside0.mk A560
                  clear A560
                  by_cases c57 : t220 < 0
                  · rw [if_pos c57] at H
                    have c57b0 : decide (t220 < 0) = true := decide_eq_true c57
                    clear c57
                    obtain rfl := Option.some.inj H
                    have hnb58 := NB208_196.out
                    have hnc58 := NB196_208.out
                    have hcz59_0 : wc.cell? ⟨gb208, 0, none⟩ = some (.int .i64 t200) := (blk_cell BK208.out 0).trans rfl
                    have hcz59_1 : wc.cell? ⟨gb208, 1, none⟩ = some (.slice Ao22 t201.length co22) := (blk_cell BK208.out 1).trans rfl
                    have hcz59_2 : wc.cell? ⟨gb208, 2, none⟩ = some (.slice Ao23 t204.length co23) := (blk_cell BK208.out 2).trans rfl
                    have hfz59_0 := blk_frozen BK208.out 0
                    have hfz59_1 := blk_frozen BK208.out 1
                    have hfz59_2 := blk_frozen BK208.out 2
                    go_wp2_with (first | ((with_reducible refine gate_callee (f := 15) rfl ?_); refine goesM_ (some 65) rfl rfl Try.func15 #[.agg #[.int .i64 t200, .slice Ao22 t201.length co22, .slice Ao23 t204.length co23], .int .i64 1] rfl ?_; (with_reducible refine (laws_markJacobi.calls kj38 t200 (fun k_ => some k_ = (.slice Ao22 t201.length co22 : Value).ownBlock) (.slice Ao22 t201.length co22) t201 (fun k_ => some k_ = (.slice Ao23 t204.length co23 : Value).ownBlock) (.slice Ao23 t204.length co23) t204 1 t217 t218 t219 w _ ?side1 ?side2 ?side3 ?side4 ?side5 A55.out).mono ?_); (case side1 => repeat (first | (with_reducible first | exact HB.out | apply below_alloc | apply pw_below_drewN | apply below_drew1 | refine below_set ?_ GE196.out | refine below_set ?_ GE208.out) | exact HB.out)); (case side2 => exact Kd.R_tight rfl HO_209001.out); (case side3 => exact fun k_ e_ => (HO_209001.out.1 k_ e_.symm).2.2); (case side4 => exact Kd.R_tight rfl HO_209002.out); (case side5 => exact fun k_ e_ => (HO_209002.out.1 k_ e_.symm).2.2); rintro e w60 ⟨rfl, hy0, hy1, hb, hkp⟩; refine ⟨_, rfl, ?_⟩; have n0_ := Aside0.mk (Kd.R_mono (ok' := fun k_ => some k_ ≠ (.slice Ao15 t192.length co15 : Value).ownBlock ∧ some k_ ≠ (.slice Ao22 t201.length co22 : Value).ownBlock ∧ some k_ ≠ (.slice Ao23 t204.length co23 : Value).ownBlock) (Kd.R_keptB (HO_197001.out) hkp (fun k_ hk_ hs_ => Or.elim hs_ (fun e_ => (hk_.2.1) e_) (fun e_ => (hk_.2.2) e_))) (fun k_ hk_ => ⟨hk_.1.1, hk_.1.2.1, hk_.1.2.2⟩)); have n1_ := Aside0.mk (Kd.R_mono (ok' := fun k_ => some k_ ≠ (.slice Ao14 t189.length co14 : Value).ownBlock ∧ some k_ ≠ (.slice Ao22 t201.length co22 : Value).ownBlock ∧ some k_ ≠ (.slice Ao23 t204.length co23 : Value).ownBlock) (Kd.R_keptB (HO_197002.out) hkp (fun k_ hk_ hs_ => Or.elim hs_ (fun e_ => (hk_.2.1) e_) (fun e_ => (hk_.2.2) e_))) (fun k_ hk_ => ⟨hk_.1.1, hk_.1.2.1, hk_.1.2.2⟩)); have n2_ := Aside0.mk (Kd.R_reok rfl hy0 (fun k_ e_ => HO_209001.out.1 k_ e_)); have n3_ := Aside0.mk (Kd.R_reok rfl hy1 (fun k_ e_ => HO_209002.out.1 k_ e_)); have n4_ := Aside0.mk (blk_kept (by (with_reducible repeat (first | refine blk_drewN ?_ _ | refine blk_drew ?_ | refine blk_alloc ?_ _)); exact BK196.out) hkp (fun hs_ => Or.elim hs_ (fun e_ => (fun e_ => (Kd.R_ne HO_209001.out BK196.out (by decide)) e_) e_) (fun e_ => (fun e_ => (Kd.R_ne HO_209002.out BK196.out (by decide)) e_) e_))); have n5_ := Aside0.mk (blk_kept (by (with_reducible repeat (first | refine blk_drewN ?_ _ | refine blk_drew ?_ | refine blk_alloc ?_ _)); exact BK208.out) hkp (fun hs_ => Or.elim hs_ (fun e_ => (fun e_ => (Kd.R_ne HO_209001.out BK208.out (by decide)) e_) e_) (fun e_ => (fun e_ => (Kd.R_ne HO_209002.out BK208.out (by decide)) e_) e_))); have n6_ := Aside0.mk (hb); clear HO_197001; clear HO_197002; clear HO_209001; clear HO_209002; clear BK196; clear BK208; clear HB; have HO_197001 := n0_; have HO_197002 := n1_; have HO_209001 := n2_; have HO_209002 := n3_; have BK196 := n4_; have BK208 := n5_; have HB := n6_; clear n0_ n1_ n2_ n3_ n4_ n5_ n6_; (try clear hb); (try clear hkp); (try clear hy0); (try clear hy1); have hcz61_0 : w60.cell? ⟨gb208, 0, none⟩ = some (.int .i64 t200) := (blk_cell BK208.out 0).trans rfl; have hcz61_1 : w60.cell? ⟨gb208, 1, none⟩ = some (.slice Ao22 t201.length co22) := (blk_cell BK208.out 1).trans rfl; have hcz61_2 : w60.cell? ⟨gb208, 2, none⟩ = some (.slice Ao23 t204.length co23) := (blk_cell BK208.out 2).trans rfl; have hfz61_0 := blk_frozen BK208.out 0; have hfz61_1 := blk_frozen BK208.out 1; have hfz61_2 := blk_frozen BK208.out 2) | ((with_reducible refine gate_callee (f := 16) rfl ?_); refine goesL_ (some 68) rfl rfl Try.func16 (by kernel_rfl) rfl #[.agg #[.int .i64 t200, .slice Ao22 t218.length co22, .slice Ao23 t219.length co23], .int .i64 1] rfl (by (try simp only [List.map_toArray, List.map_cons, List.map_nil]); first | done | (rw [show t218.length = t201.length from (Kd.R_reads' HO_209001.out).1.symm, show t219.length = t204.length from (Kd.R_reads' HO_209002.out).1.symm] <;> rfl) | rfl | (simp only [List.length_drop, List.length_take]; rfl)) ?_; (with_reducible refine (laws_heldJacobi.calls kj38 t200 _ _ t218 _ _ t219 1 t220 _ ?side1 ?side2 ?side3 ?side4 A56.out).mono ?_); (case side1 => exact cs ((Kd.R_reads' HO_209001.out).2.2)); (case side2 => rw [show t218.length = t201.length from (Kd.R_reads' HO_209001.out).1.symm]; exact (Kd.R_reads' HO_209001.out).2.1); (case side3 => exact cs ((Kd.R_reads' HO_209002.out).2.2)); (case side4 => rw [show t219.length = t204.length from (Kd.R_reads' HO_209002.out).1.symm]; exact (Kd.R_reads' HO_209002.out).2.1); rintro e w62 ⟨rfl, hb⟩; refine ⟨_, rfl, ?_⟩; have n0_ := Aside0.mk (Kd.R_below (rs HO_197001) hb); have n1_ := Aside0.mk (Kd.R_below (rs HO_197002) hb); have n2_ := Aside0.mk (Kd.R_below (rs HO_209001) hb); have n3_ := Aside0.mk (Kd.R_below (rs HO_209002) hb); have n4_ := Aside0.mk (blk_below (g := gb196) (o := .cells #[.int .i64 t188, .slice Ao14 t189.length co14, .slice Ao15 t192.length co15] 24 (0, 0)) (by (with_reducible repeat (first | refine blk_drewN ?_ _ | refine blk_drew ?_ | refine blk_alloc ?_ _)); exact BK196.out) hb); have n5_ := Aside0.mk (blk_below (g := gb208) (o := .cells #[.int .i64 t200, .slice Ao22 t201.length co22, .slice Ao23 t204.length co23] 24 (0, 0)) (by (with_reducible repeat (first | refine blk_drewN ?_ _ | refine blk_drew ?_ | refine blk_alloc ?_ _)); exact BK208.out) hb); have n6_ := Aside0.mk (below_step (by repeat (first | (with_reducible first | exact HB.out | apply below_alloc | apply pw_below_drewN | apply below_drew1 | refine below_set ?_ GE196.out | refine below_set ?_ GE208.out) | exact HB.out)) hb); clear HO_197001; clear HO_197002; clear HO_209001; clear HO_209002; clear BK196; clear BK208; clear HB; have HO_197001 := n0_; have HO_197002 := n1_; have HO_209001 := n2_; have HO_209002 := n3_; have BK196 := n4_; have BK208 := n5_; have HB := n6_; clear n0_ n1_ n2_ n3_ n4_ n5_ n6_; (try clear hb); (try clear hb2); (try clear hk); (try clear hi)))
                    go_ret
                    exact ⟨by first | rfl | (simp [errW_none, errW_some] <;> rfl) | (simp [*, errW_none, errW_some] <;> rfl), by repeat (first | (with_reducible first | exact HB.out | apply below_alloc | apply pw_below_drewN | apply below_drew1 | refine below_set ?_ GE196.out | refine below_set ?_ GE208.out) | exact HB.out)⟩
                  · rw [if_neg c57] at H
                    have c57b0 : decide (t220 < 0) = false := decide_eq_false c57
                    clear c57
                    by_cases c63 : t220 = t217
                    · rw [if_pos c63] at H
                      have c63b0 : (t220 == t217) = true := beq_iff_eq.mpr c63
                      have c63b1 : (t220 != t217) = false := bne_eq_false_iff_eq.mpr c63
                      clear c63
                      replace H := Option.bind_eq_some_iff.mp H
                      obtain ⟨t221, A640, H⟩ := H
                      have A64 := Aside0.mk A640
                      clear A640
                      replace H := Option.bind_eq_some_iff.mp H
                      obtain ⟨⟨t224, t225, t228, t231⟩, A650, H⟩ := H
                      have A65 := Aside0.mk A650
                      clear A650
                      have HC66 := Aside0.mk H
                      clear H
                      have hnb67 := NB208_196.out
                      have hnc67 := NB196_208.out
                      have hcz68_0 : wc.cell? ⟨gb208, 0, none⟩ = some (.int .i64 t200) := (blk_cell BK208.out 0).trans rfl
                      have hcz68_1 : wc.cell? ⟨gb208, 1, none⟩ = some (.slice Ao22 t201.length co22) := (blk_cell BK208.out 1).trans rfl
                      have hcz68_2 : wc.cell? ⟨gb208, 2, none⟩ = some (.slice Ao23 t204.length co23) := (blk_cell BK208.out 2).trans rfl
                      have hfz68_0 := blk_frozen BK208.out 0
                      have hfz68_1 := blk_frozen BK208.out 1
                      have hfz68_2 := blk_frozen BK208.out 2
                      go_upto_region 23 with (first | ((with_reducible refine gate_callee (f := 15) rfl ?_); refine goesM_ (some 65) rfl rfl Try.func15 #[.agg #[.int .i64 t200, .slice Ao22 t201.length co22, .slice Ao23 t204.length co23], .int .i64 1] rfl ?_; (with_reducible refine (laws_markJacobi.calls kj38 t200 (fun k_ => some k_ = (.slice Ao22 t201.length co22 : Value).ownBlock) (.slice Ao22 t201.length co22) t201 (fun k_ => some k_ = (.slice Ao23 t204.length co23 : Value).ownBlock) (.slice Ao23 t204.length co23) t204 1 t217 t218 t219 w _ ?side1 ?side2 ?side3 ?side4 ?side5 A55.out).mono ?_); (case side1 => repeat (first | (with_reducible first | exact HB.out | apply below_alloc | apply pw_below_drewN | apply below_drew1 | refine below_set ?_ GE196.out | refine below_set ?_ GE208.out) | exact HB.out)); (case side2 => exact Kd.R_tight rfl HO_209001.out); (case side3 => exact fun k_ e_ => (HO_209001.out.1 k_ e_.symm).2.2); (case side4 => exact Kd.R_tight rfl HO_209002.out); (case side5 => exact fun k_ e_ => (HO_209002.out.1 k_ e_.symm).2.2); rintro e w69 ⟨rfl, hy0, hy1, hb, hkp⟩; refine ⟨_, rfl, ?_⟩; have n0_ := Aside0.mk (Kd.R_mono (ok' := fun k_ => some k_ ≠ (.slice Ao15 t192.length co15 : Value).ownBlock ∧ some k_ ≠ (.slice Ao22 t201.length co22 : Value).ownBlock ∧ some k_ ≠ (.slice Ao23 t204.length co23 : Value).ownBlock) (Kd.R_keptB (HO_197001.out) hkp (fun k_ hk_ hs_ => Or.elim hs_ (fun e_ => (hk_.2.1) e_) (fun e_ => (hk_.2.2) e_))) (fun k_ hk_ => ⟨hk_.1.1, hk_.1.2.1, hk_.1.2.2⟩)); have n1_ := Aside0.mk (Kd.R_mono (ok' := fun k_ => some k_ ≠ (.slice Ao14 t189.length co14 : Value).ownBlock ∧ some k_ ≠ (.slice Ao22 t201.length co22 : Value).ownBlock ∧ some k_ ≠ (.slice Ao23 t204.length co23 : Value).ownBlock) (Kd.R_keptB (HO_197002.out) hkp (fun k_ hk_ hs_ => Or.elim hs_ (fun e_ => (hk_.2.1) e_) (fun e_ => (hk_.2.2) e_))) (fun k_ hk_ => ⟨hk_.1.1, hk_.1.2.1, hk_.1.2.2⟩)); have n2_ := Aside0.mk (Kd.R_reok rfl hy0 (fun k_ e_ => HO_209001.out.1 k_ e_)); have n3_ := Aside0.mk (Kd.R_reok rfl hy1 (fun k_ e_ => HO_209002.out.1 k_ e_)); have n4_ := Aside0.mk (blk_kept (by (with_reducible repeat (first | refine blk_drewN ?_ _ | refine blk_drew ?_ | refine blk_alloc ?_ _)); exact BK196.out) hkp (fun hs_ => Or.elim hs_ (fun e_ => (fun e_ => (Kd.R_ne HO_209001.out BK196.out (by decide)) e_) e_) (fun e_ => (fun e_ => (Kd.R_ne HO_209002.out BK196.out (by decide)) e_) e_))); have n5_ := Aside0.mk (blk_kept (by (with_reducible repeat (first | refine blk_drewN ?_ _ | refine blk_drew ?_ | refine blk_alloc ?_ _)); exact BK208.out) hkp (fun hs_ => Or.elim hs_ (fun e_ => (fun e_ => (Kd.R_ne HO_209001.out BK208.out (by decide)) e_) e_) (fun e_ => (fun e_ => (Kd.R_ne HO_209002.out BK208.out (by decide)) e_) e_))); have n6_ := Aside0.mk (hb); clear HO_197001; clear HO_197002; clear HO_209001; clear HO_209002; clear BK196; clear BK208; clear HB; have HO_197001 := n0_; have HO_197002 := n1_; have HO_209001 := n2_; have HO_209002 := n3_; have BK196 := n4_; have BK208 := n5_; have HB := n6_; clear n0_ n1_ n2_ n3_ n4_ n5_ n6_; (try clear hb); (try clear hkp); (try clear hy0); (try clear hy1); have hcz70_0 : w69.cell? ⟨gb208, 0, none⟩ = some (.int .i64 t200) := (blk_cell BK208.out 0).trans rfl; have hcz70_1 : w69.cell? ⟨gb208, 1, none⟩ = some (.slice Ao22 t201.length co22) := (blk_cell BK208.out 1).trans rfl; have hcz70_2 : w69.cell? ⟨gb208, 2, none⟩ = some (.slice Ao23 t204.length co23) := (blk_cell BK208.out 2).trans rfl; have hfz70_0 := blk_frozen BK208.out 0; have hfz70_1 := blk_frozen BK208.out 1; have hfz70_2 := blk_frozen BK208.out 2) | ((with_reducible refine gate_callee (f := 16) rfl ?_); refine goesL_ (some 68) rfl rfl Try.func16 (by kernel_rfl) rfl #[.agg #[.int .i64 t200, .slice Ao22 t218.length co22, .slice Ao23 t219.length co23], .int .i64 1] rfl (by (try simp only [List.map_toArray, List.map_cons, List.map_nil]); first | done | (rw [show t218.length = t201.length from (Kd.R_reads' HO_209001.out).1.symm, show t219.length = t204.length from (Kd.R_reads' HO_209002.out).1.symm] <;> rfl) | rfl | (simp only [List.length_drop, List.length_take]; rfl)) ?_; (with_reducible refine (laws_heldJacobi.calls kj38 t200 _ _ t218 _ _ t219 1 t220 _ ?side1 ?side2 ?side3 ?side4 A56.out).mono ?_); (case side1 => exact cs ((Kd.R_reads' HO_209001.out).2.2)); (case side2 => rw [show t218.length = t201.length from (Kd.R_reads' HO_209001.out).1.symm]; exact (Kd.R_reads' HO_209001.out).2.1); (case side3 => exact cs ((Kd.R_reads' HO_209002.out).2.2)); (case side4 => rw [show t219.length = t204.length from (Kd.R_reads' HO_209002.out).1.symm]; exact (Kd.R_reads' HO_209002.out).2.1); rintro e w71 ⟨rfl, hb⟩; refine ⟨_, rfl, ?_⟩; have n0_ := Aside0.mk (Kd.R_below (rs HO_197001) hb); have n1_ := Aside0.mk (Kd.R_below (rs HO_197002) hb); have n2_ := Aside0.mk (Kd.R_below (rs HO_209001) hb); have n3_ := Aside0.mk (Kd.R_below (rs HO_209002) hb); have n4_ := Aside0.mk (blk_below (g := gb196) (o := .cells #[.int .i64 t188, .slice Ao14 t189.length co14, .slice Ao15 t192.length co15] 24 (0, 0)) (by (with_reducible repeat (first | refine blk_drewN ?_ _ | refine blk_drew ?_ | refine blk_alloc ?_ _)); exact BK196.out) hb); have n5_ := Aside0.mk (blk_below (g := gb208) (o := .cells #[.int .i64 t200, .slice Ao22 t201.length co22, .slice Ao23 t204.length co23] 24 (0, 0)) (by (with_reducible repeat (first | refine blk_drewN ?_ _ | refine blk_drew ?_ | refine blk_alloc ?_ _)); exact BK208.out) hb); have n6_ := Aside0.mk (below_step (by repeat (first | (with_reducible first | exact HB.out | apply below_alloc | apply pw_below_drewN | apply below_drew1 | refine below_set ?_ GE196.out | refine below_set ?_ GE208.out) | exact HB.out)) hb); clear HO_197001; clear HO_197002; clear HO_209001; clear HO_209002; clear BK196; clear BK208; clear HB; have HO_197001 := n0_; have HO_197002 := n1_; have HO_209001 := n2_; have HO_209002 := n3_; have BK196 := n4_; have BK208 := n5_; have HB := n6_; clear n0_ n1_ n2_ n3_ n4_ n5_ n6_; (try clear hb); (try clear hb2); (try clear hk); (try clear hi)) | ((with_reducible refine gate_callee (f := 10) rfl ?_); refine goesM_ (some 77) rfl rfl Try.func10 #[.slice A1 l1.length c1] rfl ?_; (with_reducible refine (laws_toInt64S.calls kj38 _ _ l1 t221 _ ?side1 ?side2 A64.out).mono ?_); (case side1 => exact cs ((Kd.C_below HR1.out HB.out))); (case side2 => exact HC1.out); rintro e w72 ⟨v222, rfl, ho0, hb⟩; refine ⟨_, rfl, ?_⟩; have n0_ := Aside0.mk (Kd.R_elder' (rs HO_197001) (Kd.R_base ho0) hb); have n1_ := Aside0.mk (Kd.R_elder' (rs HO_197002) (Kd.R_base ho0) hb); have n2_ := Aside0.mk (Kd.R_elder' (rs HO_209001) (Kd.R_base ho0) hb); have n3_ := Aside0.mk (Kd.R_elder' (rs HO_209002) (Kd.R_base ho0) hb); have n4_ := Aside0.mk (Kd.R_lower (Kd.R_new' (Kd.R_new' (Kd.R_new' (Kd.R_new' ho0 (Kd.R_lt (rs HO_197001))) (Kd.R_lt (rs HO_197002))) (Kd.R_lt (rs HO_209001))) (Kd.R_lt (rs HO_209002))) (below_size (by repeat (first | (with_reducible first | exact HB.out | apply below_alloc | apply pw_below_drewN | apply below_drew1 | refine below_set ?_ GE196.out | refine below_set ?_ GE208.out) | exact HB.out)))); have n5_ := Aside0.mk (blk_below (g := gb196) (o := .cells #[.int .i64 t188, .slice Ao14 t189.length co14, .slice Ao15 t192.length co15] 24 (0, 0)) (by (with_reducible repeat (first | refine blk_drewN ?_ _ | refine blk_drew ?_ | refine blk_alloc ?_ _)); exact BK196.out) hb); have n6_ := Aside0.mk (blk_below (g := gb208) (o := .cells #[.int .i64 t200, .slice Ao22 t201.length co22, .slice Ao23 t204.length co23] 24 (0, 0)) (by (with_reducible repeat (first | refine blk_drewN ?_ _ | refine blk_drew ?_ | refine blk_alloc ?_ _)); exact BK208.out) hb); have n7_ := Aside0.mk (below_step (by repeat (first | (with_reducible first | exact HB.out | apply below_alloc | apply pw_below_drewN | apply below_drew1 | refine below_set ?_ GE196.out | refine below_set ?_ GE208.out) | exact HB.out)) hb); clear HO_197001; clear HO_197002; clear HO_209001; clear HO_209002; clear BK196; clear BK208; clear HB; have HO_197001 := n0_; have HO_197002 := n1_; have HO_209001 := n2_; have HO_209002 := n3_; have HO223 := n4_; have BK196 := n5_; have BK208 := n6_; have HB := n7_; clear n0_ n1_ n2_ n3_ n4_ n5_ n6_ n7_; (try clear hb); (try clear hb2); (try clear hk); (try clear hi); (try clear ho0); obtain ⟨Ao73, co73, eo73⟩ := Kd.R_slice HO223.out; subst eo73) | ((with_reducible refine gate_callee (f := 11) rfl ?_); refine goesM_ (some 78) rfl rfl Try.func11 #[.int .i64 a0, .slice Ao73 t221.length co73] rfl ?_; (with_reducible refine (impl_JacobiOfSteps.calls kj38 a0 _ _ t221 t224 t225 t228 t231 _ ?side1 ?side2 A65.out).mono ?_); (case side1 => exact cs ((Kd.R_reads' HO223.out).2.2)); (case side2 => exact (Kd.R_reads' HO223.out).2.1); rintro e w74 ⟨v226, v229, rfl, ho0, ho1, hb⟩; refine ⟨_, rfl, ?_⟩; have n0_ := Aside0.mk (Kd.R_mono (Kd.R_told (Kd.R_told (Kd.R_old (rs HO_197001) hb) (Kd.R_base ho0)) (Kd.R_base ho1)) (fun _ h_ => h_.1)); have n1_ := Aside0.mk (Kd.R_mono (Kd.R_told (Kd.R_told (Kd.R_old (rs HO_197002) hb) (Kd.R_base ho0)) (Kd.R_base ho1)) (fun _ h_ => h_.1)); have n2_ := Aside0.mk (Kd.R_mono (Kd.R_told (Kd.R_told (Kd.R_old (rs HO_209001) hb) (Kd.R_base ho0)) (Kd.R_base ho1)) (fun _ h_ => h_.1)); have n3_ := Aside0.mk (Kd.R_mono (Kd.R_told (Kd.R_told (Kd.R_old (rs HO_209002) hb) (Kd.R_base ho0)) (Kd.R_base ho1)) (fun _ h_ => h_.1)); have n4_ := Aside0.mk (Kd.R_mono (Kd.R_told (Kd.R_told (Kd.R_old (rs HO223) hb) (Kd.R_base ho0)) (Kd.R_base ho1)) (fun _ h_ => h_.1)); have n5_ := Aside0.mk (Kd.R_lower (Kd.R_new' (Kd.R_new' (Kd.R_new' (Kd.R_new' (Kd.R_new' ho0 (Kd.R_lt (rs HO_197001))) (Kd.R_lt (rs HO_197002))) (Kd.R_lt (rs HO_209001))) (Kd.R_lt (rs HO_209002))) (Kd.R_lt (rs HO223))) (below_size (by repeat (first | (with_reducible first | exact HB.out | apply below_alloc | apply pw_below_drewN | apply below_drew1 | refine below_set ?_ GE196.out | refine below_set ?_ GE208.out) | exact HB.out)))); have n6_ := Aside0.mk (Kd.R_lower (Kd.R_new' (Kd.R_new' (Kd.R_new' (Kd.R_new' (Kd.R_new' ho1 (Kd.R_lt (rs HO_197001))) (Kd.R_lt (rs HO_197002))) (Kd.R_lt (rs HO_209001))) (Kd.R_lt (rs HO_209002))) (Kd.R_lt (rs HO223))) (below_size (by repeat (first | (with_reducible first | exact HB.out | apply below_alloc | apply pw_below_drewN | apply below_drew1 | refine below_set ?_ GE196.out | refine below_set ?_ GE208.out) | exact HB.out)))); have n7_ := Aside0.mk (blk_below (g := gb196) (o := .cells #[.int .i64 t188, .slice Ao14 t189.length co14, .slice Ao15 t192.length co15] 24 (0, 0)) (by (with_reducible repeat (first | refine blk_drewN ?_ _ | refine blk_drew ?_ | refine blk_alloc ?_ _)); exact BK196.out) hb); have n8_ := Aside0.mk (blk_below (g := gb208) (o := .cells #[.int .i64 t200, .slice Ao22 t201.length co22, .slice Ao23 t204.length co23] 24 (0, 0)) (by (with_reducible repeat (first | refine blk_drewN ?_ _ | refine blk_drew ?_ | refine blk_alloc ?_ _)); exact BK208.out) hb); have n9_ := Aside0.mk (below_step (by repeat (first | (with_reducible first | exact HB.out | apply below_alloc | apply pw_below_drewN | apply below_drew1 | refine below_set ?_ GE196.out | refine below_set ?_ GE208.out) | exact HB.out)) hb); clear HO_197001; clear HO_197002; clear HO_209001; clear HO_209002; clear HO223; clear BK196; clear BK208; clear HB; have HO_197001 := n0_; have HO_197002 := n1_; have HO_209001 := n2_; have HO_209002 := n3_; have HO223 := n4_; have HO227 := n5_; have HO230 := n6_; have BK196 := n7_; have BK208 := n8_; have HB := n9_; clear n0_ n1_ n2_ n3_ n4_ n5_ n6_ n7_ n8_ n9_; (try clear hb); (try clear hb2); (try clear hk); (try clear hi); (try clear ho0); (try clear ho1)) | ((with_reducible refine gate_dst (N := 13) rfl ?_); refine box_event ?hg (N := 13) ?hd (cs := #[.int .i64 0, .slice none 0 0, .slice none 0 0]) (t := 24) ?hr ?_; (case hd => rfl); (case hg => rfl); (case hr => first | (go_simp; done) | (go_simp; rfl)); intro gb232 hg w75 hbox hb; have n0_ := Aside0.mk (Kd.R_below (rs HO_197001) hb); have n1_ := Aside0.mk (Kd.R_below (rs HO_197002) hb); have n2_ := Aside0.mk (Kd.R_below (rs HO_209001) hb); have n3_ := Aside0.mk (Kd.R_below (rs HO_209002) hb); have n4_ := Aside0.mk (Kd.R_below (rs HO223) hb); have n5_ := Aside0.mk (Kd.R_below (rs HO227) hb); have n6_ := Aside0.mk (Kd.R_below (rs HO230) hb); have n7_ := Aside0.mk (blk_below (g := gb196) (o := .cells #[.int .i64 t188, .slice Ao14 t189.length co14, .slice Ao15 t192.length co15] 24 (0, 0)) (by (with_reducible repeat (first | refine blk_drewN ?_ _ | refine blk_drew ?_ | refine blk_alloc ?_ _)); exact BK196.out) hb); have n8_ := Aside0.mk (blk_below (g := gb208) (o := .cells #[.int .i64 t200, .slice Ao22 t201.length co22, .slice Ao23 t204.length co23] 24 (0, 0)) (by (with_reducible repeat (first | refine blk_drewN ?_ _ | refine blk_drew ?_ | refine blk_alloc ?_ _)); exact BK208.out) hb); have n9_ := Aside0.mk (below_step (by repeat (first | (with_reducible first | exact HB.out | apply below_alloc | apply pw_below_drewN | apply below_drew1 | refine below_set ?_ GE196.out | refine below_set ?_ GE208.out) | exact HB.out)) hb); have n10_ := Aside0.mk (hbox); have n11_ := Aside0.mk ((by rw [hg]; exact (below_size (by repeat (first | (with_reducible first | exact HB.out | apply below_alloc | apply pw_below_drewN | apply below_drew1 | refine below_set ?_ GE196.out | refine below_set ?_ GE208.out) | exact HB.out))) : w.heap.size ≤ gb232)); have n12_ := Aside0.mk ((by rw [hg]; exact (below_size (by repeat (first | (with_reducible first | exact HB.out | apply below_alloc | apply pw_below_drewN | apply below_drew1 | refine below_set ?_ GE196.out | refine below_set ?_ GE208.out) | exact HB.out))) : w.heap.size ≤ gb232)); have n13_ := Aside0.mk ((by rw [hg]; exact Nat.ne_of_lt (blk_lt (g := gb196) (o := .cells #[.int .i64 t188, .slice Ao14 t189.length co14, .slice Ao15 t192.length co15] 24 (0, 0)) (by (with_reducible repeat (first | refine blk_drewN ?_ _ | refine blk_drew ?_ | refine blk_alloc ?_ _)); exact BK196.out)) : gb196 ≠ gb232)); have n14_ := Aside0.mk ((by rw [hg]; exact Nat.ne_of_gt (blk_lt (g := gb196) (o := .cells #[.int .i64 t188, .slice Ao14 t189.length co14, .slice Ao15 t192.length co15] 24 (0, 0)) (by (with_reducible repeat (first | refine blk_drewN ?_ _ | refine blk_drew ?_ | refine blk_alloc ?_ _)); exact BK196.out)) : gb232 ≠ gb196)); have n15_ := Aside0.mk ((by rw [hg]; exact Nat.ne_of_lt (blk_lt (g := gb208) (o := .cells #[.int .i64 t200, .slice Ao22 t201.length co22, .slice Ao23 t204.length co23] 24 (0, 0)) (by (with_reducible repeat (first | refine blk_drewN ?_ _ | refine blk_drew ?_ | refine blk_alloc ?_ _)); exact BK208.out)) : gb208 ≠ gb232)); have n16_ := Aside0.mk ((by rw [hg]; exact Nat.ne_of_gt (blk_lt (g := gb208) (o := .cells #[.int .i64 t200, .slice Ao22 t201.length co22, .slice Ao23 t204.length co23] 24 (0, 0)) (by (with_reducible repeat (first | refine blk_drewN ?_ _ | refine blk_drew ?_ | refine blk_alloc ?_ _)); exact BK208.out)) : gb232 ≠ gb208)); clear HO_197001; clear HO_197002; clear HO_209001; clear HO_209002; clear HO223; clear HO227; clear HO230; clear BK196; clear BK208; clear HB; have HO_197001 := n0_; have HO_197002 := n1_; have HO_209001 := n2_; have HO_209002 := n3_; have HO223 := n4_; have HO227 := n5_; have HO230 := n6_; have BK196 := n7_; have BK208 := n8_; have HB := n9_; have BK232 := n10_; have GW232 := n11_; have GE232 := n12_; have NB196_232 := n13_; have NB232_196 := n14_; have NB208_232 := n15_; have NB232_208 := n16_; clear n0_ n1_ n2_ n3_ n4_ n5_ n6_ n7_ n8_ n9_ n10_ n11_ n12_ n13_ n14_ n15_ n16_; clear hb hbox hg; have hnb76 := NB232_196.out; have hnc76 := NB196_232.out; have hnb77 := NB232_208.out; have hnc77 := NB208_232.out; have hcz78_0 : w75.cell? ⟨gb232, 0, none⟩ = some (.int .i64 0) := (blk_cell BK232.out 0).trans rfl; have hcz78_1 : w75.cell? ⟨gb232, 1, none⟩ = some (.slice none 0 0) := (blk_cell BK232.out 1).trans rfl; have hcz78_2 : w75.cell? ⟨gb232, 2, none⟩ = some (.slice none 0 0) := (blk_cell BK232.out 2).trans rfl; have hfz78_0 := blk_frozen BK232.out 0; have hfz78_1 := blk_frozen BK232.out 1; have hfz78_2 := blk_frozen BK232.out 2; obtain ⟨Ao79, co79, eo79⟩ := Kd.R_slice HO227.out; subst eo79; obtain ⟨Ao80, co80, eo80⟩ := Kd.R_slice HO230.out; subst eo80))
                      (try simp only [Act.put, List.setIfInBounds_toArray, List.set_cons_zero, List.set_cons_succ])
                      go_cut [89] (fun v89 wc => ∃ (kq : Nat) (x89_65 : Bool), v89 = .bool x89_65 ∧ Aside0 (laws_FnExactJacobiOfSteps.j2 kq t217 x89_65 t200 t218 t219 = some r) ∧ Aside0 (kq ≤ kj38) ∧ Aside0 (Kd.R (Kd.int .i64) 2 wc w.heap.size (fun k_ => some k_ ≠ ((.slice Ao15 t192.length co15) : Value).ownBlock ∧ some k_ ≠ ((.slice Ao22 t201.length co22) : Value).ownBlock ∧ some k_ ≠ ((.slice Ao23 t204.length co23) : Value).ownBlock ∧ some k_ ≠ ((.slice Ao79 t225.length co79) : Value).ownBlock ∧ some k_ ≠ ((.slice Ao80 t228.length co80) : Value).ownBlock) (.slice Ao14 t189.length co14) t189) ∧ Aside0 (Kd.R (Kd.int .i64) 2 wc w.heap.size (fun k_ => some k_ ≠ ((.slice Ao14 t189.length co14) : Value).ownBlock ∧ some k_ ≠ ((.slice Ao22 t201.length co22) : Value).ownBlock ∧ some k_ ≠ ((.slice Ao23 t204.length co23) : Value).ownBlock ∧ some k_ ≠ ((.slice Ao79 t225.length co79) : Value).ownBlock ∧ some k_ ≠ ((.slice Ao80 t228.length co80) : Value).ownBlock) (.slice Ao15 t192.length co15) t192) ∧ Aside0 (Kd.R (Kd.int .i64) 2 wc w.heap.size (fun k_ => some k_ ≠ ((.slice Ao14 t189.length co14) : Value).ownBlock ∧ some k_ ≠ ((.slice Ao15 t192.length co15) : Value).ownBlock ∧ some k_ ≠ ((.slice Ao23 t204.length co23) : Value).ownBlock ∧ some k_ ≠ ((.slice Ao79 t225.length co79) : Value).ownBlock ∧ some k_ ≠ ((.slice Ao80 t228.length co80) : Value).ownBlock) (.slice Ao22 t201.length co22) t218) ∧ Aside0 (Kd.R (Kd.int .i64) 2 wc w.heap.size (fun k_ => some k_ ≠ ((.slice Ao14 t189.length co14) : Value).ownBlock ∧ some k_ ≠ ((.slice Ao15 t192.length co15) : Value).ownBlock ∧ some k_ ≠ ((.slice Ao22 t201.length co22) : Value).ownBlock ∧ some k_ ≠ ((.slice Ao79 t225.length co79) : Value).ownBlock ∧ some k_ ≠ ((.slice Ao80 t228.length co80) : Value).ownBlock) (.slice Ao23 t204.length co23) t219) ∧ Aside0 (Kd.R (Kd.int .i64) 2 wc w.heap.size (fun k_ => some k_ ≠ ((.slice Ao14 t189.length co14) : Value).ownBlock ∧ some k_ ≠ ((.slice Ao15 t192.length co15) : Value).ownBlock ∧ some k_ ≠ ((.slice Ao22 t201.length co22) : Value).ownBlock ∧ some k_ ≠ ((.slice Ao23 t204.length co23) : Value).ownBlock ∧ some k_ ≠ ((.slice Ao80 t228.length co80) : Value).ownBlock) (.slice Ao79 t225.length co79) t225) ∧ Aside0 (Kd.R (Kd.int .i64) 2 wc w.heap.size (fun k_ => some k_ ≠ ((.slice Ao14 t189.length co14) : Value).ownBlock ∧ some k_ ≠ ((.slice Ao15 t192.length co15) : Value).ownBlock ∧ some k_ ≠ ((.slice Ao22 t201.length co22) : Value).ownBlock ∧ some k_ ≠ ((.slice Ao23 t204.length co23) : Value).ownBlock ∧ some k_ ≠ ((.slice Ao79 t225.length co79) : Value).ownBlock) (.slice Ao80 t228.length co80) t228) ∧ Aside0 (wc.heap[gb196]? = some (.cells #[.int .i64 t188, (.slice Ao14 t189.length co14), (.slice Ao15 t192.length co15)] 24 (0, 0))) ∧ Aside0 (wc.heap[gb208]? = some (.cells #[.int .i64 t200, (.slice Ao22 t201.length co22), (.slice Ao23 t204.length co23)] 24 (0, 0))) ∧ Aside0 (wc.heap[gb232]? = some (.cells #[.int .i64 t224, (.slice Ao79 t225.length co79), (.slice Ao80 t228.length co80)] 24 (0, 0))) ∧ Aside0 (Below w.heap.size w wc))
                      case first =>
                        have H := HC66.out
                        clear HC66
                        replace H := Option.bind_eq_some_iff.mp H
                        obtain ⟨t233, A810, H⟩ := H
                        have A81 := Aside0.mk A810
                        clear A810
                        by_cases c82 : t233 = true
                        · subst c82
                          have H1 : (laws_FnExactJacobiOfSteps.j2 kj38 t217 (t231 != t195) t200 t218 t219) = some r := by rw [if_pos rfl] at H; exact H
                          clear H
                          have H := H1
                          clear H1
                          have H' := Aside0.mk H
                          clear H
                          have hnb83 := NB232_196.out
                          have hnc83 := NB196_232.out
                          have hnb84 := NB232_208.out
                          have hnc84 := NB208_232.out
                          have hcz85_0 : w75.cell? ⟨gb232, 0, none⟩ = some (.int .i64 0) := (blk_cell BK232.out 0).trans rfl
                          have hcz85_1 : w75.cell? ⟨gb232, 1, none⟩ = some (.slice none 0 0) := (blk_cell BK232.out 1).trans rfl
                          have hcz85_2 : w75.cell? ⟨gb232, 2, none⟩ = some (.slice none 0 0) := (blk_cell BK232.out 2).trans rfl
                          have hfz85_0 := blk_frozen BK232.out 0
                          have hfz85_1 := blk_frozen BK232.out 1
                          have hfz85_2 := blk_frozen BK232.out 2
                          have hnb86 := NB196_208.out
                          have hnc86 := NB208_196.out
                          have hcz87_0 : w75.cell? ⟨gb196, 0, none⟩ = some (.int .i64 t188) := (blk_cell BK196.out 0).trans rfl
                          have hcz87_1 : w75.cell? ⟨gb196, 1, none⟩ = some (.slice Ao14 t189.length co14) := (blk_cell BK196.out 1).trans rfl
                          have hcz87_2 : w75.cell? ⟨gb196, 2, none⟩ = some (.slice Ao15 t192.length co15) := (blk_cell BK196.out 2).trans rfl
                          have hfz87_0 := blk_frozen BK196.out 0
                          have hfz87_1 := blk_frozen BK196.out 1
                          have hfz87_2 := blk_frozen BK196.out 2
                          go_wp2_with (first | ((with_reducible refine gate_callee (f := 12) rfl ?_); refine goesM_ (some 83) rfl rfl Try.func12 #[.agg #[.int .i64 t224, .slice Ao79 t225.length co79, .slice Ao80 t228.length co80], .agg #[.int .i64 t188, .slice Ao14 t189.length co14, .slice Ao15 t192.length co15]] rfl ?_; (with_reducible refine (laws_eqJacobi.calls kj38 t224 _ _ t225 _ _ t228 t188 _ _ t189 _ _ t192 true _ ?side1 ?side2 ?side3 ?side4 ?side5 ?side6 ?side7 ?side8 A81.out).mono ?_); (case side1 => refine (Kd.R_reads' (e := 2) (base := w.heap.size) (ok := fun k_ => (((((some k_ ≠ (.slice Ao80 t228.length co80 : Value).ownBlock ∧ some k_ ≠ (.slice Ao14 t189.length co14 : Value).ownBlock) ∧ some k_ ≠ (.slice Ao15 t192.length co15 : Value).ownBlock) ∧ some k_ ≠ (.slice Ao22 t201.length co22 : Value).ownBlock) ∧ some k_ ≠ (.slice Ao23 t204.length co23 : Value).ownBlock) ∧ some k_ ≠ (.slice Ao73 t221.length co73 : Value).ownBlock)) (n := t225.length) (c := co79) ?_).2.2; exact (by (with_reducible repeat (first | apply Kd.R_alloc | apply Kd.R_drewN | apply Kd.R_drew)); exact (Kd.R_mono (Kd.R_far (p := ⟨gb232, 2, none⟩) (Kd.R_far (p := ⟨gb232, 1, none⟩) (Kd.R_far (p := ⟨gb232, 0, none⟩) (Kd.R_types HO227.out BK232.out (by decide)) (fun _ hk => hk.2) (.int .i64 t224)) (fun _ hk => hk.2) (.slice Ao79 t225.length co79)) (fun _ hk => hk.2) (.slice Ao80 t228.length co80)) (fun _ h_ => h_.1)))); (case side2 => exact (Kd.R_reads' HO227.out).2.1); (case side3 => refine (Kd.R_reads' (e := 2) (base := w.heap.size) (ok := fun k_ => (((((some k_ ≠ (.slice Ao79 t225.length co79 : Value).ownBlock ∧ some k_ ≠ (.slice Ao14 t189.length co14 : Value).ownBlock) ∧ some k_ ≠ (.slice Ao15 t192.length co15 : Value).ownBlock) ∧ some k_ ≠ (.slice Ao22 t201.length co22 : Value).ownBlock) ∧ some k_ ≠ (.slice Ao23 t204.length co23 : Value).ownBlock) ∧ some k_ ≠ (.slice Ao73 t221.length co73 : Value).ownBlock)) (n := t228.length) (c := co80) ?_).2.2; exact (by (with_reducible repeat (first | apply Kd.R_alloc | apply Kd.R_drewN | apply Kd.R_drew)); exact (Kd.R_mono (Kd.R_far (p := ⟨gb232, 2, none⟩) (Kd.R_far (p := ⟨gb232, 1, none⟩) (Kd.R_far (p := ⟨gb232, 0, none⟩) (Kd.R_types HO230.out BK232.out (by decide)) (fun _ hk => hk.2) (.int .i64 t224)) (fun _ hk => hk.2) (.slice Ao79 t225.length co79)) (fun _ hk => hk.2) (.slice Ao80 t228.length co80)) (fun _ h_ => h_.1)))); (case side4 => exact (Kd.R_reads' HO230.out).2.1); (case side5 => refine (Kd.R_reads' (e := 2) (base := w.heap.size) (ok := fun k_ => ((((some k_ ≠ (.slice Ao15 t192.length co15 : Value).ownBlock ∧ (some k_ ≠ (.slice Ao22 t201.length co22 : Value).ownBlock ∧ some k_ ≠ (.slice Ao23 t204.length co23 : Value).ownBlock)) ∧ some k_ ≠ (.slice Ao73 t221.length co73 : Value).ownBlock) ∧ some k_ ≠ (.slice Ao79 t225.length co79 : Value).ownBlock) ∧ some k_ ≠ (.slice Ao80 t228.length co80 : Value).ownBlock)) (n := t189.length) (c := co14) ?_).2.2; exact (by (with_reducible repeat (first | apply Kd.R_alloc | apply Kd.R_drewN | apply Kd.R_drew)); exact (Kd.R_mono (Kd.R_far (p := ⟨gb232, 2, none⟩) (Kd.R_far (p := ⟨gb232, 1, none⟩) (Kd.R_far (p := ⟨gb232, 0, none⟩) (Kd.R_types HO_197001.out BK232.out (by decide)) (fun _ hk => hk.2) (.int .i64 t224)) (fun _ hk => hk.2) (.slice Ao79 t225.length co79)) (fun _ hk => hk.2) (.slice Ao80 t228.length co80)) (fun _ h_ => h_.1)))); (case side6 => exact (Kd.R_reads' HO_197001.out).2.1); (case side7 => refine (Kd.R_reads' (e := 2) (base := w.heap.size) (ok := fun k_ => ((((some k_ ≠ (.slice Ao14 t189.length co14 : Value).ownBlock ∧ (some k_ ≠ (.slice Ao22 t201.length co22 : Value).ownBlock ∧ some k_ ≠ (.slice Ao23 t204.length co23 : Value).ownBlock)) ∧ some k_ ≠ (.slice Ao73 t221.length co73 : Value).ownBlock) ∧ some k_ ≠ (.slice Ao79 t225.length co79 : Value).ownBlock) ∧ some k_ ≠ (.slice Ao80 t228.length co80 : Value).ownBlock)) (n := t192.length) (c := co15) ?_).2.2; exact (by (with_reducible repeat (first | apply Kd.R_alloc | apply Kd.R_drewN | apply Kd.R_drew)); exact (Kd.R_mono (Kd.R_far (p := ⟨gb232, 2, none⟩) (Kd.R_far (p := ⟨gb232, 1, none⟩) (Kd.R_far (p := ⟨gb232, 0, none⟩) (Kd.R_types HO_197002.out BK232.out (by decide)) (fun _ hk => hk.2) (.int .i64 t224)) (fun _ hk => hk.2) (.slice Ao79 t225.length co79)) (fun _ hk => hk.2) (.slice Ao80 t228.length co80)) (fun _ h_ => h_.1)))); (case side8 => exact (Kd.R_reads' HO_197002.out).2.1); rintro e w88 ⟨rfl, hb⟩; refine ⟨_, rfl, ?_⟩; have n0_ := Aside0.mk (Kd.R_below (by (with_reducible repeat (first | apply Kd.R_alloc | apply Kd.R_drewN | apply Kd.R_drew)); exact (Kd.R_mono (Kd.R_far (p := ⟨gb232, 2, none⟩) (Kd.R_far (p := ⟨gb232, 1, none⟩) (Kd.R_far (p := ⟨gb232, 0, none⟩) (Kd.R_types HO_197001.out BK232.out (by decide)) (fun _ hk => hk.2) (.int .i64 t224)) (fun _ hk => hk.2) (.slice Ao79 t225.length co79)) (fun _ hk => hk.2) (.slice Ao80 t228.length co80)) (fun _ h_ => h_.1))) hb); have n1_ := Aside0.mk (Kd.R_below (by (with_reducible repeat (first | apply Kd.R_alloc | apply Kd.R_drewN | apply Kd.R_drew)); exact (Kd.R_mono (Kd.R_far (p := ⟨gb232, 2, none⟩) (Kd.R_far (p := ⟨gb232, 1, none⟩) (Kd.R_far (p := ⟨gb232, 0, none⟩) (Kd.R_types HO_197002.out BK232.out (by decide)) (fun _ hk => hk.2) (.int .i64 t224)) (fun _ hk => hk.2) (.slice Ao79 t225.length co79)) (fun _ hk => hk.2) (.slice Ao80 t228.length co80)) (fun _ h_ => h_.1))) hb); have n2_ := Aside0.mk (Kd.R_below (by (with_reducible repeat (first | apply Kd.R_alloc | apply Kd.R_drewN | apply Kd.R_drew)); exact (Kd.R_mono (Kd.R_far (p := ⟨gb232, 2, none⟩) (Kd.R_far (p := ⟨gb232, 1, none⟩) (Kd.R_far (p := ⟨gb232, 0, none⟩) (Kd.R_types HO_209001.out BK232.out (by decide)) (fun _ hk => hk.2) (.int .i64 t224)) (fun _ hk => hk.2) (.slice Ao79 t225.length co79)) (fun _ hk => hk.2) (.slice Ao80 t228.length co80)) (fun _ h_ => h_.1))) hb); have n3_ := Aside0.mk (Kd.R_below (by (with_reducible repeat (first | apply Kd.R_alloc | apply Kd.R_drewN | apply Kd.R_drew)); exact (Kd.R_mono (Kd.R_far (p := ⟨gb232, 2, none⟩) (Kd.R_far (p := ⟨gb232, 1, none⟩) (Kd.R_far (p := ⟨gb232, 0, none⟩) (Kd.R_types HO_209002.out BK232.out (by decide)) (fun _ hk => hk.2) (.int .i64 t224)) (fun _ hk => hk.2) (.slice Ao79 t225.length co79)) (fun _ hk => hk.2) (.slice Ao80 t228.length co80)) (fun _ h_ => h_.1))) hb); have n4_ := Aside0.mk (Kd.R_below (by (with_reducible repeat (first | apply Kd.R_alloc | apply Kd.R_drewN | apply Kd.R_drew)); exact (Kd.R_mono (Kd.R_far (p := ⟨gb232, 2, none⟩) (Kd.R_far (p := ⟨gb232, 1, none⟩) (Kd.R_far (p := ⟨gb232, 0, none⟩) (Kd.R_types HO223.out BK232.out (by decide)) (fun _ hk => hk.2) (.int .i64 t224)) (fun _ hk => hk.2) (.slice Ao79 t225.length co79)) (fun _ hk => hk.2) (.slice Ao80 t228.length co80)) (fun _ h_ => h_.1))) hb); have n5_ := Aside0.mk (Kd.R_below (by (with_reducible repeat (first | apply Kd.R_alloc | apply Kd.R_drewN | apply Kd.R_drew)); exact (Kd.R_mono (Kd.R_far (p := ⟨gb232, 2, none⟩) (Kd.R_far (p := ⟨gb232, 1, none⟩) (Kd.R_far (p := ⟨gb232, 0, none⟩) (Kd.R_types HO227.out BK232.out (by decide)) (fun _ hk => hk.2) (.int .i64 t224)) (fun _ hk => hk.2) (.slice Ao79 t225.length co79)) (fun _ hk => hk.2) (.slice Ao80 t228.length co80)) (fun _ h_ => h_.1))) hb); have n6_ := Aside0.mk (Kd.R_below (by (with_reducible repeat (first | apply Kd.R_alloc | apply Kd.R_drewN | apply Kd.R_drew)); exact (Kd.R_mono (Kd.R_far (p := ⟨gb232, 2, none⟩) (Kd.R_far (p := ⟨gb232, 1, none⟩) (Kd.R_far (p := ⟨gb232, 0, none⟩) (Kd.R_types HO230.out BK232.out (by decide)) (fun _ hk => hk.2) (.int .i64 t224)) (fun _ hk => hk.2) (.slice Ao79 t225.length co79)) (fun _ hk => hk.2) (.slice Ao80 t228.length co80)) (fun _ h_ => h_.1))) hb); have n7_ := Aside0.mk (blk_below (g := gb196) (o := .cells #[.int .i64 t188, .slice Ao14 t189.length co14, .slice Ao15 t192.length co15] 24 (0, 0)) (by (with_reducible repeat (first | refine blk_drewN ?_ _ | refine blk_drew ?_ | refine blk_alloc ?_ _)); refine blk_far ?_ NB196_232.out _; (with_reducible repeat (first | refine blk_drewN ?_ _ | refine blk_drew ?_ | refine blk_alloc ?_ _)); refine blk_far ?_ NB196_232.out _; (with_reducible repeat (first | refine blk_drewN ?_ _ | refine blk_drew ?_ | refine blk_alloc ?_ _)); refine blk_far ?_ NB196_232.out _; (with_reducible repeat (first | refine blk_drewN ?_ _ | refine blk_drew ?_ | refine blk_alloc ?_ _)); exact BK196.out) hb); have n8_ := Aside0.mk (blk_below (g := gb208) (o := .cells #[.int .i64 t200, .slice Ao22 t201.length co22, .slice Ao23 t204.length co23] 24 (0, 0)) (by (with_reducible repeat (first | refine blk_drewN ?_ _ | refine blk_drew ?_ | refine blk_alloc ?_ _)); refine blk_far ?_ NB208_232.out _; (with_reducible repeat (first | refine blk_drewN ?_ _ | refine blk_drew ?_ | refine blk_alloc ?_ _)); refine blk_far ?_ NB208_232.out _; (with_reducible repeat (first | refine blk_drewN ?_ _ | refine blk_drew ?_ | refine blk_alloc ?_ _)); refine blk_far ?_ NB208_232.out _; (with_reducible repeat (first | refine blk_drewN ?_ _ | refine blk_drew ?_ | refine blk_alloc ?_ _)); exact BK208.out) hb); have n9_ := Aside0.mk (blk_below (g := gb232) (o := .cells #[.int .i64 t224, .slice Ao79 t225.length co79, .slice Ao80 t228.length co80] 24 (0, 0)) (by (with_reducible repeat (first | refine blk_drewN ?_ _ | refine blk_drew ?_ | refine blk_alloc ?_ _)); refine blk_put (cs := #[.int .i64 t224, .slice Ao79 t225.length co79, .slice none 0 0]) ?_ 2 _ rfl; (with_reducible repeat (first | refine blk_drewN ?_ _ | refine blk_drew ?_ | refine blk_alloc ?_ _)); refine blk_put (cs := #[.int .i64 t224, .slice none 0 0, .slice none 0 0]) ?_ 1 _ rfl; (with_reducible repeat (first | refine blk_drewN ?_ _ | refine blk_drew ?_ | refine blk_alloc ?_ _)); refine blk_put (cs := #[.int .i64 0, .slice none 0 0, .slice none 0 0]) ?_ 0 _ rfl; (with_reducible repeat (first | refine blk_drewN ?_ _ | refine blk_drew ?_ | refine blk_alloc ?_ _)); exact BK232.out) hb); have n10_ := Aside0.mk (below_step (by repeat (first | (with_reducible first | exact HB.out | apply below_alloc | apply pw_below_drewN | apply below_drew1 | refine below_set ?_ GE196.out | refine below_set ?_ GE208.out | refine below_set ?_ GE232.out) | exact HB.out)) hb); clear HO_197001; clear HO_197002; clear HO_209001; clear HO_209002; clear HO223; clear HO227; clear HO230; clear BK196; clear BK208; clear BK232; clear HB; have HO_197001 := n0_; have HO_197002 := n1_; have HO_209001 := n2_; have HO_209002 := n3_; have HO223 := n4_; have HO227 := n5_; have HO230 := n6_; have BK196 := n7_; have BK208 := n8_; have BK232 := n9_; have HB := n10_; clear n0_ n1_ n2_ n3_ n4_ n5_ n6_ n7_ n8_ n9_ n10_; (try clear hb); (try clear hb2); (try clear hk); (try clear hi)))
                          go_meet
                          case rel => exact ⟨_, ((t231 != t195)), ea_, H', ⟨by have := HJ7.out; have := HJ38.out; first | omega | exact Nat.le_refl _⟩, ⟨by (with_reducible repeat (first | apply Kd.R_alloc | apply Kd.R_drewN | apply Kd.R_drew)); exact Kd.R_mono HO_197001.out (fun _ hk => ⟨hk.1.1.1.1, ⟨hk.1.1.1.2.1, ⟨hk.1.1.1.2.2, ⟨hk.1.2, hk.2⟩⟩⟩⟩)⟩, ⟨by (with_reducible repeat (first | apply Kd.R_alloc | apply Kd.R_drewN | apply Kd.R_drew)); exact Kd.R_mono HO_197002.out (fun _ hk => ⟨hk.1.1.1.1, ⟨hk.1.1.1.2.1, ⟨hk.1.1.1.2.2, ⟨hk.1.2, hk.2⟩⟩⟩⟩)⟩, ⟨by (with_reducible repeat (first | apply Kd.R_alloc | apply Kd.R_drewN | apply Kd.R_drew)); exact Kd.R_mono HO_209001.out (fun _ hk => ⟨hk.1.1.1.1, ⟨hk.1.1.1.2.1, ⟨hk.1.1.1.2.2, ⟨hk.1.2, hk.2⟩⟩⟩⟩)⟩, ⟨by (with_reducible repeat (first | apply Kd.R_alloc | apply Kd.R_drewN | apply Kd.R_drew)); exact Kd.R_mono HO_209002.out (fun _ hk => ⟨hk.1.1.1.1, ⟨hk.1.1.1.2.1, ⟨hk.1.1.1.2.2, ⟨hk.1.2, hk.2⟩⟩⟩⟩)⟩, ⟨by (with_reducible repeat (first | apply Kd.R_alloc | apply Kd.R_drewN | apply Kd.R_drew)); exact Kd.R_mono HO227.out (fun _ hk => ⟨hk.1.1.1.1.2, ⟨hk.1.1.1.2, ⟨hk.1.1.2, ⟨hk.1.2, hk.1.1.1.1.1⟩⟩⟩⟩)⟩, ⟨by (with_reducible repeat (first | apply Kd.R_alloc | apply Kd.R_drewN | apply Kd.R_drew)); exact Kd.R_mono HO230.out (fun _ hk => ⟨hk.1.1.1.1.2, ⟨hk.1.1.1.2, ⟨hk.1.1.2, ⟨hk.1.2, hk.1.1.1.1.1⟩⟩⟩⟩)⟩, ⟨by (with_reducible repeat (first | refine blk_drewN ?_ _ | refine blk_drew ?_ | refine blk_alloc ?_ _)); exact BK196.out⟩, ⟨by (with_reducible repeat (first | refine blk_drewN ?_ _ | refine blk_drew ?_ | refine blk_alloc ?_ _)); exact BK208.out⟩, ⟨by (with_reducible repeat (first | refine blk_drewN ?_ _ | refine blk_drew ?_ | refine blk_alloc ?_ _)); exact BK232.out⟩, ⟨by repeat (first | (with_reducible first | exact HB.out | apply below_alloc | apply pw_below_drewN | apply below_drew1 | refine below_set ?_ GE196.out | refine below_set ?_ GE208.out | refine below_set ?_ GE232.out) | exact HB.out)⟩⟩
                        · replace c82 := Bool.eq_false_iff.mpr c82
                          subst c82
                          have H1 : (laws_FnExactJacobiOfSteps.j2 kj38 t217 true t200 t218 t219) = some r := by rw [if_neg (show ¬ (false = true) by decide)] at H; exact H
                          clear H
                          have H := H1
                          clear H1
                          have H' := Aside0.mk H
                          clear H
                          have hnb89 := NB232_196.out
                          have hnc89 := NB196_232.out
                          have hnb90 := NB232_208.out
                          have hnc90 := NB208_232.out
                          have hcz91_0 : w75.cell? ⟨gb232, 0, none⟩ = some (.int .i64 0) := (blk_cell BK232.out 0).trans rfl
                          have hcz91_1 : w75.cell? ⟨gb232, 1, none⟩ = some (.slice none 0 0) := (blk_cell BK232.out 1).trans rfl
                          have hcz91_2 : w75.cell? ⟨gb232, 2, none⟩ = some (.slice none 0 0) := (blk_cell BK232.out 2).trans rfl
                          have hfz91_0 := blk_frozen BK232.out 0
                          have hfz91_1 := blk_frozen BK232.out 1
                          have hfz91_2 := blk_frozen BK232.out 2
                          have hnb92 := NB196_208.out
                          have hnc92 := NB208_196.out
                          have hcz93_0 : w75.cell? ⟨gb196, 0, none⟩ = some (.int .i64 t188) := (blk_cell BK196.out 0).trans rfl
                          have hcz93_1 : w75.cell? ⟨gb196, 1, none⟩ = some (.slice Ao14 t189.length co14) := (blk_cell BK196.out 1).trans rfl
                          have hcz93_2 : w75.cell? ⟨gb196, 2, none⟩ = some (.slice Ao15 t192.length co15) := (blk_cell BK196.out 2).trans rfl
                          have hfz93_0 := blk_frozen BK196.out 0
                          have hfz93_1 := blk_frozen BK196.out 1
                          have hfz93_2 := blk_frozen BK196.out 2
                          go_wp2_with (first | ((with_reducible refine gate_callee (f := 12) rfl ?_); refine goesM_ (some 83) rfl rfl Try.func12 #[.agg #[.int .i64 t224, .slice Ao79 t225.length co79, .slice Ao80 t228.length co80], .agg #[.int .i64 t188, .slice Ao14 t189.length co14, .slice Ao15 t192.length co15]] rfl ?_; (with_reducible refine (laws_eqJacobi.calls kj38 t224 _ _ t225 _ _ t228 t188 _ _ t189 _ _ t192 false _ ?side1 ?side2 ?side3 ?side4 ?side5 ?side6 ?side7 ?side8 A81.out).mono ?_); (case side1 => refine (Kd.R_reads' (e := 2) (base := w.heap.size) (ok := fun k_ => (((((some k_ ≠ (.slice Ao80 t228.length co80 : Value).ownBlock ∧ some k_ ≠ (.slice Ao14 t189.length co14 : Value).ownBlock) ∧ some k_ ≠ (.slice Ao15 t192.length co15 : Value).ownBlock) ∧ some k_ ≠ (.slice Ao22 t201.length co22 : Value).ownBlock) ∧ some k_ ≠ (.slice Ao23 t204.length co23 : Value).ownBlock) ∧ some k_ ≠ (.slice Ao73 t221.length co73 : Value).ownBlock)) (n := t225.length) (c := co79) ?_).2.2; exact (by (with_reducible repeat (first | apply Kd.R_alloc | apply Kd.R_drewN | apply Kd.R_drew)); exact (Kd.R_mono (Kd.R_far (p := ⟨gb232, 2, none⟩) (Kd.R_far (p := ⟨gb232, 1, none⟩) (Kd.R_far (p := ⟨gb232, 0, none⟩) (Kd.R_types HO227.out BK232.out (by decide)) (fun _ hk => hk.2) (.int .i64 t224)) (fun _ hk => hk.2) (.slice Ao79 t225.length co79)) (fun _ hk => hk.2) (.slice Ao80 t228.length co80)) (fun _ h_ => h_.1)))); (case side2 => exact (Kd.R_reads' HO227.out).2.1); (case side3 => refine (Kd.R_reads' (e := 2) (base := w.heap.size) (ok := fun k_ => (((((some k_ ≠ (.slice Ao79 t225.length co79 : Value).ownBlock ∧ some k_ ≠ (.slice Ao14 t189.length co14 : Value).ownBlock) ∧ some k_ ≠ (.slice Ao15 t192.length co15 : Value).ownBlock) ∧ some k_ ≠ (.slice Ao22 t201.length co22 : Value).ownBlock) ∧ some k_ ≠ (.slice Ao23 t204.length co23 : Value).ownBlock) ∧ some k_ ≠ (.slice Ao73 t221.length co73 : Value).ownBlock)) (n := t228.length) (c := co80) ?_).2.2; exact (by (with_reducible repeat (first | apply Kd.R_alloc | apply Kd.R_drewN | apply Kd.R_drew)); exact (Kd.R_mono (Kd.R_far (p := ⟨gb232, 2, none⟩) (Kd.R_far (p := ⟨gb232, 1, none⟩) (Kd.R_far (p := ⟨gb232, 0, none⟩) (Kd.R_types HO230.out BK232.out (by decide)) (fun _ hk => hk.2) (.int .i64 t224)) (fun _ hk => hk.2) (.slice Ao79 t225.length co79)) (fun _ hk => hk.2) (.slice Ao80 t228.length co80)) (fun _ h_ => h_.1)))); (case side4 => exact (Kd.R_reads' HO230.out).2.1); (case side5 => refine (Kd.R_reads' (e := 2) (base := w.heap.size) (ok := fun k_ => ((((some k_ ≠ (.slice Ao15 t192.length co15 : Value).ownBlock ∧ (some k_ ≠ (.slice Ao22 t201.length co22 : Value).ownBlock ∧ some k_ ≠ (.slice Ao23 t204.length co23 : Value).ownBlock)) ∧ some k_ ≠ (.slice Ao73 t221.length co73 : Value).ownBlock) ∧ some k_ ≠ (.slice Ao79 t225.length co79 : Value).ownBlock) ∧ some k_ ≠ (.slice Ao80 t228.length co80 : Value).ownBlock)) (n := t189.length) (c := co14) ?_).2.2; exact (by (with_reducible repeat (first | apply Kd.R_alloc | apply Kd.R_drewN | apply Kd.R_drew)); exact (Kd.R_mono (Kd.R_far (p := ⟨gb232, 2, none⟩) (Kd.R_far (p := ⟨gb232, 1, none⟩) (Kd.R_far (p := ⟨gb232, 0, none⟩) (Kd.R_types HO_197001.out BK232.out (by decide)) (fun _ hk => hk.2) (.int .i64 t224)) (fun _ hk => hk.2) (.slice Ao79 t225.length co79)) (fun _ hk => hk.2) (.slice Ao80 t228.length co80)) (fun _ h_ => h_.1)))); (case side6 => exact (Kd.R_reads' HO_197001.out).2.1); (case side7 => refine (Kd.R_reads' (e := 2) (base := w.heap.size) (ok := fun k_ => ((((some k_ ≠ (.slice Ao14 t189.length co14 : Value).ownBlock ∧ (some k_ ≠ (.slice Ao22 t201.length co22 : Value).ownBlock ∧ some k_ ≠ (.slice Ao23 t204.length co23 : Value).ownBlock)) ∧ some k_ ≠ (.slice Ao73 t221.length co73 : Value).ownBlock) ∧ some k_ ≠ (.slice Ao79 t225.length co79 : Value).ownBlock) ∧ some k_ ≠ (.slice Ao80 t228.length co80 : Value).ownBlock)) (n := t192.length) (c := co15) ?_).2.2; exact (by (with_reducible repeat (first | apply Kd.R_alloc | apply Kd.R_drewN | apply Kd.R_drew)); exact (Kd.R_mono (Kd.R_far (p := ⟨gb232, 2, none⟩) (Kd.R_far (p := ⟨gb232, 1, none⟩) (Kd.R_far (p := ⟨gb232, 0, none⟩) (Kd.R_types HO_197002.out BK232.out (by decide)) (fun _ hk => hk.2) (.int .i64 t224)) (fun _ hk => hk.2) (.slice Ao79 t225.length co79)) (fun _ hk => hk.2) (.slice Ao80 t228.length co80)) (fun _ h_ => h_.1)))); (case side8 => exact (Kd.R_reads' HO_197002.out).2.1); rintro e w94 ⟨rfl, hb⟩; refine ⟨_, rfl, ?_⟩; have n0_ := Aside0.mk (Kd.R_below (by (with_reducible repeat (first | apply Kd.R_alloc | apply Kd.R_drewN | apply Kd.R_drew)); exact (Kd.R_mono (Kd.R_far (p := ⟨gb232, 2, none⟩) (Kd.R_far (p := ⟨gb232, 1, none⟩) (Kd.R_far (p := ⟨gb232, 0, none⟩) (Kd.R_types HO_197001.out BK232.out (by decide)) (fun _ hk => hk.2) (.int .i64 t224)) (fun _ hk => hk.2) (.slice Ao79 t225.length co79)) (fun _ hk => hk.2) (.slice Ao80 t228.length co80)) (fun _ h_ => h_.1))) hb); have n1_ := Aside0.mk (Kd.R_below (by (with_reducible repeat (first | apply Kd.R_alloc | apply Kd.R_drewN | apply Kd.R_drew)); exact (Kd.R_mono (Kd.R_far (p := ⟨gb232, 2, none⟩) (Kd.R_far (p := ⟨gb232, 1, none⟩) (Kd.R_far (p := ⟨gb232, 0, none⟩) (Kd.R_types HO_197002.out BK232.out (by decide)) (fun _ hk => hk.2) (.int .i64 t224)) (fun _ hk => hk.2) (.slice Ao79 t225.length co79)) (fun _ hk => hk.2) (.slice Ao80 t228.length co80)) (fun _ h_ => h_.1))) hb); have n2_ := Aside0.mk (Kd.R_below (by (with_reducible repeat (first | apply Kd.R_alloc | apply Kd.R_drewN | apply Kd.R_drew)); exact (Kd.R_mono (Kd.R_far (p := ⟨gb232, 2, none⟩) (Kd.R_far (p := ⟨gb232, 1, none⟩) (Kd.R_far (p := ⟨gb232, 0, none⟩) (Kd.R_types HO_209001.out BK232.out (by decide)) (fun _ hk => hk.2) (.int .i64 t224)) (fun _ hk => hk.2) (.slice Ao79 t225.length co79)) (fun _ hk => hk.2) (.slice Ao80 t228.length co80)) (fun _ h_ => h_.1))) hb); have n3_ := Aside0.mk (Kd.R_below (by (with_reducible repeat (first | apply Kd.R_alloc | apply Kd.R_drewN | apply Kd.R_drew)); exact (Kd.R_mono (Kd.R_far (p := ⟨gb232, 2, none⟩) (Kd.R_far (p := ⟨gb232, 1, none⟩) (Kd.R_far (p := ⟨gb232, 0, none⟩) (Kd.R_types HO_209002.out BK232.out (by decide)) (fun _ hk => hk.2) (.int .i64 t224)) (fun _ hk => hk.2) (.slice Ao79 t225.length co79)) (fun _ hk => hk.2) (.slice Ao80 t228.length co80)) (fun _ h_ => h_.1))) hb); have n4_ := Aside0.mk (Kd.R_below (by (with_reducible repeat (first | apply Kd.R_alloc | apply Kd.R_drewN | apply Kd.R_drew)); exact (Kd.R_mono (Kd.R_far (p := ⟨gb232, 2, none⟩) (Kd.R_far (p := ⟨gb232, 1, none⟩) (Kd.R_far (p := ⟨gb232, 0, none⟩) (Kd.R_types HO223.out BK232.out (by decide)) (fun _ hk => hk.2) (.int .i64 t224)) (fun _ hk => hk.2) (.slice Ao79 t225.length co79)) (fun _ hk => hk.2) (.slice Ao80 t228.length co80)) (fun _ h_ => h_.1))) hb); have n5_ := Aside0.mk (Kd.R_below (by (with_reducible repeat (first | apply Kd.R_alloc | apply Kd.R_drewN | apply Kd.R_drew)); exact (Kd.R_mono (Kd.R_far (p := ⟨gb232, 2, none⟩) (Kd.R_far (p := ⟨gb232, 1, none⟩) (Kd.R_far (p := ⟨gb232, 0, none⟩) (Kd.R_types HO227.out BK232.out (by decide)) (fun _ hk => hk.2) (.int .i64 t224)) (fun _ hk => hk.2) (.slice Ao79 t225.length co79)) (fun _ hk => hk.2) (.slice Ao80 t228.length co80)) (fun _ h_ => h_.1))) hb); have n6_ := Aside0.mk (Kd.R_below (by (with_reducible repeat (first | apply Kd.R_alloc | apply Kd.R_drewN | apply Kd.R_drew)); exact (Kd.R_mono (Kd.R_far (p := ⟨gb232, 2, none⟩) (Kd.R_far (p := ⟨gb232, 1, none⟩) (Kd.R_far (p := ⟨gb232, 0, none⟩) (Kd.R_types HO230.out BK232.out (by decide)) (fun _ hk => hk.2) (.int .i64 t224)) (fun _ hk => hk.2) (.slice Ao79 t225.length co79)) (fun _ hk => hk.2) (.slice Ao80 t228.length co80)) (fun _ h_ => h_.1))) hb); have n7_ := Aside0.mk (blk_below (g := gb196) (o := .cells #[.int .i64 t188, .slice Ao14 t189.length co14, .slice Ao15 t192.length co15] 24 (0, 0)) (by (with_reducible repeat (first | refine blk_drewN ?_ _ | refine blk_drew ?_ | refine blk_alloc ?_ _)); refine blk_far ?_ NB196_232.out _; (with_reducible repeat (first | refine blk_drewN ?_ _ | refine blk_drew ?_ | refine blk_alloc ?_ _)); refine blk_far ?_ NB196_232.out _; (with_reducible repeat (first | refine blk_drewN ?_ _ | refine blk_drew ?_ | refine blk_alloc ?_ _)); refine blk_far ?_ NB196_232.out _; (with_reducible repeat (first | refine blk_drewN ?_ _ | refine blk_drew ?_ | refine blk_alloc ?_ _)); exact BK196.out) hb); have n8_ := Aside0.mk (blk_below (g := gb208) (o := .cells #[.int .i64 t200, .slice Ao22 t201.length co22, .slice Ao23 t204.length co23] 24 (0, 0)) (by (with_reducible repeat (first | refine blk_drewN ?_ _ | refine blk_drew ?_ | refine blk_alloc ?_ _)); refine blk_far ?_ NB208_232.out _; (with_reducible repeat (first | refine blk_drewN ?_ _ | refine blk_drew ?_ | refine blk_alloc ?_ _)); refine blk_far ?_ NB208_232.out _; (with_reducible repeat (first | refine blk_drewN ?_ _ | refine blk_drew ?_ | refine blk_alloc ?_ _)); refine blk_far ?_ NB208_232.out _; (with_reducible repeat (first | refine blk_drewN ?_ _ | refine blk_drew ?_ | refine blk_alloc ?_ _)); exact BK208.out) hb); have n9_ := Aside0.mk (blk_below (g := gb232) (o := .cells #[.int .i64 t224, .slice Ao79 t225.length co79, .slice Ao80 t228.length co80] 24 (0, 0)) (by (with_reducible repeat (first | refine blk_drewN ?_ _ | refine blk_drew ?_ | refine blk_alloc ?_ _)); refine blk_put (cs := #[.int .i64 t224, .slice Ao79 t225.length co79, .slice none 0 0]) ?_ 2 _ rfl; (with_reducible repeat (first | refine blk_drewN ?_ _ | refine blk_drew ?_ | refine blk_alloc ?_ _)); refine blk_put (cs := #[.int .i64 t224, .slice none 0 0, .slice none 0 0]) ?_ 1 _ rfl; (with_reducible repeat (first | refine blk_drewN ?_ _ | refine blk_drew ?_ | refine blk_alloc ?_ _)); refine blk_put (cs := #[.int .i64 0, .slice none 0 0, .slice none 0 0]) ?_ 0 _ rfl; (with_reducible repeat (first | refine blk_drewN ?_ _ | refine blk_drew ?_ | refine blk_alloc ?_ _)); exact BK232.out) hb); have n10_ := Aside0.mk (below_step (by repeat (first | (with_reducible first | exact HB.out | apply below_alloc | apply pw_below_drewN | apply below_drew1 | refine below_set ?_ GE196.out | refine below_set ?_ GE208.out | refine below_set ?_ GE232.out) | exact HB.out)) hb); clear HO_197001; clear HO_197002; clear HO_209001; clear HO_209002; clear HO223; clear HO227; clear HO230; clear BK196; clear BK208; clear BK232; clear HB; have HO_197001 := n0_; have HO_197002 := n1_; have HO_209001 := n2_; have HO_209002 := n3_; have HO223 := n4_; have HO227 := n5_; have HO230 := n6_; have BK196 := n7_; have BK208 := n8_; have BK232 := n9_; have HB := n10_; clear n0_ n1_ n2_ n3_ n4_ n5_ n6_ n7_ n8_ n9_ n10_; (try clear hb); (try clear hb2); (try clear hk); (try clear hi)))
                          go_meet
                          case rel => exact ⟨_, (true), ea_, H', ⟨by have := HJ7.out; have := HJ38.out; first | omega | exact Nat.le_refl _⟩, ⟨by (with_reducible repeat (first | apply Kd.R_alloc | apply Kd.R_drewN | apply Kd.R_drew)); exact Kd.R_mono HO_197001.out (fun _ hk => ⟨hk.1.1.1.1, ⟨hk.1.1.1.2.1, ⟨hk.1.1.1.2.2, ⟨hk.1.2, hk.2⟩⟩⟩⟩)⟩, ⟨by (with_reducible repeat (first | apply Kd.R_alloc | apply Kd.R_drewN | apply Kd.R_drew)); exact Kd.R_mono HO_197002.out (fun _ hk => ⟨hk.1.1.1.1, ⟨hk.1.1.1.2.1, ⟨hk.1.1.1.2.2, ⟨hk.1.2, hk.2⟩⟩⟩⟩)⟩, ⟨by (with_reducible repeat (first | apply Kd.R_alloc | apply Kd.R_drewN | apply Kd.R_drew)); exact Kd.R_mono HO_209001.out (fun _ hk => ⟨hk.1.1.1.1, ⟨hk.1.1.1.2.1, ⟨hk.1.1.1.2.2, ⟨hk.1.2, hk.2⟩⟩⟩⟩)⟩, ⟨by (with_reducible repeat (first | apply Kd.R_alloc | apply Kd.R_drewN | apply Kd.R_drew)); exact Kd.R_mono HO_209002.out (fun _ hk => ⟨hk.1.1.1.1, ⟨hk.1.1.1.2.1, ⟨hk.1.1.1.2.2, ⟨hk.1.2, hk.2⟩⟩⟩⟩)⟩, ⟨by (with_reducible repeat (first | apply Kd.R_alloc | apply Kd.R_drewN | apply Kd.R_drew)); exact Kd.R_mono HO227.out (fun _ hk => ⟨hk.1.1.1.1.2, ⟨hk.1.1.1.2, ⟨hk.1.1.2, ⟨hk.1.2, hk.1.1.1.1.1⟩⟩⟩⟩)⟩, ⟨by (with_reducible repeat (first | apply Kd.R_alloc | apply Kd.R_drewN | apply Kd.R_drew)); exact Kd.R_mono HO230.out (fun _ hk => ⟨hk.1.1.1.1.2, ⟨hk.1.1.1.2, ⟨hk.1.1.2, ⟨hk.1.2, hk.1.1.1.1.1⟩⟩⟩⟩)⟩, ⟨by (with_reducible repeat (first | refine blk_drewN ?_ _ | refine blk_drew ?_ | refine blk_alloc ?_ _)); exact BK196.out⟩, ⟨by (with_reducible repeat (first | refine blk_drewN ?_ _ | refine blk_drew ?_ | refine blk_alloc ?_ _)); exact BK208.out⟩, ⟨by (with_reducible repeat (first | refine blk_drewN ?_ _ | refine blk_drew ?_ | refine blk_alloc ?_ _)); exact BK232.out⟩, ⟨by repeat (first | (with_reducible first | exact HB.out | apply below_alloc | apply pw_below_drewN | apply below_drew1 | refine below_set ?_ GE196.out | refine below_set ?_ GE208.out | refine below_set ?_ GE232.out) | exact HB.out)⟩⟩
                      case rest =>
                        clear HC66
                        try clear c1
                        try clear c2
                        try clear p2
                        try clear c3
                        try clear c3b0
                        try clear c3b1
                        try clear c4
                        try clear c5
                        try clear c6
                        try clear c7
                        try clear c8
                        try clear c9
                        try clear c10
                        try clear c11
                        try clear c12
                        try clear c13
                        try clear c14
                        try clear c15
                        try clear c16
                        try clear c20
                        try clear c25
                        try clear c26
                        try clear c30
                        try clear c34
                        try clear c37
                        try clear c43
                        try clear c43b0
                        try clear c45
                        try clear c46
                        try clear c50
                        try clear c54
                        try clear c57
                        try clear c57b0
                        try clear c58
                        try clear c63
                        try clear c63b0
                        try clear c63b1
                        try clear c67
                        try clear c76
                        try clear c77
                        try clear c82
                        try clear c83
                        try clear c84
                        try clear c86
                        try clear c89
                        try clear c90
                        try clear c92
                        try clear hcz13_0
                        try clear hcz13_1
                        try clear hcz13_2
                        try clear hcz21_0
                        try clear hcz21_1
                        try clear hcz21_2
                        try clear hcz27_0
                        try clear hcz27_1
                        try clear hcz27_2
                        try clear hcz28_0
                        try clear hcz28_1
                        try clear hcz28_2
                        try clear hcz31_0
                        try clear hcz31_1
                        try clear hcz31_2
                        try clear hcz32_0
                        try clear hcz32_1
                        try clear hcz32_2
                        try clear hcz47_0
                        try clear hcz47_1
                        try clear hcz47_2
                        try clear hcz48_0
                        try clear hcz48_1
                        try clear hcz48_2
                        try clear hcz51_0
                        try clear hcz51_1
                        try clear hcz51_2
                        try clear hcz52_0
                        try clear hcz52_1
                        try clear hcz52_2
                        try clear hcz59_0
                        try clear hcz59_1
                        try clear hcz59_2
                        try clear hcz61_0
                        try clear hcz61_1
                        try clear hcz61_2
                        try clear hcz68_0
                        try clear hcz68_1
                        try clear hcz68_2
                        try clear hcz70_0
                        try clear hcz70_1
                        try clear hcz70_2
                        try clear hcz78_0
                        try clear hcz78_1
                        try clear hcz78_2
                        try clear hcz85_0
                        try clear hcz85_1
                        try clear hcz85_2
                        try clear hcz87_0
                        try clear hcz87_1
                        try clear hcz87_2
                        try clear hcz91_0
                        try clear hcz91_1
                        try clear hcz91_2
                        try clear hcz93_0
                        try clear hcz93_1
                        try clear hcz93_2
                        try clear hfz13_0
                        try clear hfz13_1
                        try clear hfz13_2
                        try clear hfz21_0
                        try clear hfz21_1
                        try clear hfz21_2
                        try clear hfz27_0
                        try clear hfz27_1
                        try clear hfz27_2
                        try clear hfz28_0
                        try clear hfz28_1
                        try clear hfz28_2
                        try clear hfz31_0
                        try clear hfz31_1
                        try clear hfz31_2
                        try clear hfz32_0
                        try clear hfz32_1
                        try clear hfz32_2
                        try clear hfz47_0
                        try clear hfz47_1
                        try clear hfz47_2
                        try clear hfz48_0
                        try clear hfz48_1
                        try clear hfz48_2
                        try clear hfz51_0
                        try clear hfz51_1
                        try clear hfz51_2
                        try clear hfz52_0
                        try clear hfz52_1
                        try clear hfz52_2
                        try clear hfz59_0
                        try clear hfz59_1
                        try clear hfz59_2
                        try clear hfz61_0
                        try clear hfz61_1
                        try clear hfz61_2
                        try clear hfz68_0
                        try clear hfz68_1
                        try clear hfz68_2
                        try clear hfz70_0
                        try clear hfz70_1
                        try clear hfz70_2
                        try clear hfz78_0
                        try clear hfz78_1
                        try clear hfz78_2
                        try clear hfz85_0
                        try clear hfz85_1
                        try clear hfz85_2
                        try clear hfz87_0
                        try clear hfz87_1
                        try clear hfz87_2
                        try clear hfz91_0
                        try clear hfz91_1
                        try clear hfz91_2
                        try clear hfz93_0
                        try clear hfz93_1
                        try clear hfz93_2
                        try clear p2
                        obtain ⟨kq, x89_65, rfl, HA, HJ65, HO_197001, HO_197002, HO_209001, HO_209002, HO_233001, HO_233002, BK196, BK208, BK232, HB⟩ := hcut
                        have hl209001_65 := (Kd.R_reads' HO_209001.out).1
                        rw [hl209001_65] at HO_209001
                        (try simp only [hl209001_65])
                        (try simp only [hl209001_65] at BK196)
                        (try simp only [hl209001_65] at BK208)
                        (try simp only [hl209001_65] at BK232)
                        (try simp only [hl209001_65] at HO_197001)
                        (try simp only [hl209001_65] at HO_197002)
                        (try simp only [hl209001_65] at HO_209002)
                        (try simp only [hl209001_65] at HO_233001)
                        (try simp only [hl209001_65] at HO_233002)
                        have hl209002_65 := (Kd.R_reads' HO_209002.out).1
                        rw [hl209002_65] at HO_209002
                        (try simp only [hl209002_65])
                        (try simp only [hl209002_65] at BK196)
                        (try simp only [hl209002_65] at BK208)
                        (try simp only [hl209002_65] at BK232)
                        (try simp only [hl209002_65] at HO_197001)
                        (try simp only [hl209002_65] at HO_197002)
                        (try simp only [hl209002_65] at HO_209001)
                        (try simp only [hl209002_65] at HO_233001)
                        (try simp only [hl209002_65] at HO_233002)
                        cases kq with
                        | zero => exact absurd HA.out (by simp [laws_FnExactJacobiOfSteps.j2])
                        | succ kj65 =>
                          have H := HA.out
                          clear HA
                          simp only [laws_FnExactJacobiOfSteps.j2] at H
                          by_cases c95 : x89_65 = true
                          · subst c95
                            have H1 : (some false) = some r := by rw [if_pos rfl] at H; exact H
                            clear H
                            have H := H1
                            clear H1
                            obtain rfl := Option.some.inj H
                            go_wp2
                            go_ret
                            exact ⟨by first | rfl | (simp [errW_none, errW_some] <;> rfl) | (simp [*, errW_none, errW_some] <;> rfl), by repeat (first | (with_reducible first | exact HB.out | apply below_alloc | apply pw_below_drewN | apply below_drew1 | refine below_set ?_ GE196.out | refine below_set ?_ GE208.out | refine below_set ?_ GE232.out) | exact HB.out)⟩
                          · replace c95 := Bool.eq_false_iff.mpr c95
                            subst c95
                            have H1 : ((laws_heldJacobi.f kj65 t200 t218 t219 1).bind fun t234 => (if t234 < 0 then (some false) else (if t234 = t217 then (some true) else (some false)))) = some r := by rw [if_neg (show ¬ (false = true) by decide)] at H; exact H
                            clear H
                            have H := H1
                            clear H1
                            replace H := Option.bind_eq_some_iff.mp H
                            obtain ⟨t234, A960, H⟩ := H
                            have A96 := Aside0.mk A960
                            clear A960
                            by_cases c97 : t234 < 0
                            · rw [if_pos c97] at H
                              have c97b0 : decide (t234 < 0) = true := decide_eq_true c97
                              clear c97
                              obtain rfl := Option.some.inj H
                              have hnb98 := NB208_196.out
                              have hnc98 := NB196_208.out
                              have hnb99 := NB208_232.out
                              have hnc99 := NB232_208.out
                              have hcz100_0 : wc.cell? ⟨gb208, 0, none⟩ = some (.int .i64 t200) := (blk_cell BK208.out 0).trans rfl
                              have hcz100_1 : wc.cell? ⟨gb208, 1, none⟩ = some (.slice Ao22 t218.length co22) := (blk_cell BK208.out 1).trans rfl
                              have hcz100_2 : wc.cell? ⟨gb208, 2, none⟩ = some (.slice Ao23 t219.length co23) := (blk_cell BK208.out 2).trans rfl
                              have hfz100_0 := blk_frozen BK208.out 0
                              have hfz100_1 := blk_frozen BK208.out 1
                              have hfz100_2 := blk_frozen BK208.out 2
                              go_wp2_with (first | ((with_reducible refine gate_callee (f := 16) rfl ?_); refine goesM_ (some 92) rfl rfl Try.func16 #[.agg #[.int .i64 t200, .slice Ao22 t218.length co22, .slice Ao23 t219.length co23], .int .i64 1] rfl ?_; (with_reducible refine (laws_heldJacobi.calls kj65 t200 _ _ t218 _ _ t219 1 t234 _ ?side1 ?side2 ?side3 ?side4 A96.out).mono ?_); (case side1 => exact cs ((Kd.R_reads' HO_209001.out).2.2)); (case side2 => exact (Kd.R_reads' HO_209001.out).2.1); (case side3 => exact cs ((Kd.R_reads' HO_209002.out).2.2)); (case side4 => exact (Kd.R_reads' HO_209002.out).2.1); rintro e w101 ⟨rfl, hb⟩; refine ⟨_, rfl, ?_⟩; have n0_ := Aside0.mk (Kd.R_below (rs HO_197001) hb); have n1_ := Aside0.mk (Kd.R_below (rs HO_197002) hb); have n2_ := Aside0.mk (Kd.R_below (rs HO_209001) hb); have n3_ := Aside0.mk (Kd.R_below (rs HO_209002) hb); have n4_ := Aside0.mk (Kd.R_below (rs HO_233001) hb); have n5_ := Aside0.mk (Kd.R_below (rs HO_233002) hb); have n6_ := Aside0.mk (blk_below (g := gb196) (o := .cells #[.int .i64 t188, .slice Ao14 t189.length co14, .slice Ao15 t192.length co15] 24 (0, 0)) (by (with_reducible repeat (first | refine blk_drewN ?_ _ | refine blk_drew ?_ | refine blk_alloc ?_ _)); exact BK196.out) hb); have n7_ := Aside0.mk (blk_below (g := gb208) (o := .cells #[.int .i64 t200, .slice Ao22 t218.length co22, .slice Ao23 t219.length co23] 24 (0, 0)) (by (with_reducible repeat (first | refine blk_drewN ?_ _ | refine blk_drew ?_ | refine blk_alloc ?_ _)); exact BK208.out) hb); have n8_ := Aside0.mk (blk_below (g := gb232) (o := .cells #[.int .i64 t224, .slice Ao79 t225.length co79, .slice Ao80 t228.length co80] 24 (0, 0)) (by (with_reducible repeat (first | refine blk_drewN ?_ _ | refine blk_drew ?_ | refine blk_alloc ?_ _)); exact BK232.out) hb); have n9_ := Aside0.mk (below_step (by repeat (first | (with_reducible first | exact HB.out | apply below_alloc | apply pw_below_drewN | apply below_drew1 | refine below_set ?_ GE196.out | refine below_set ?_ GE208.out | refine below_set ?_ GE232.out) | exact HB.out)) hb); clear HO_197001; clear HO_197002; clear HO_209001; clear HO_209002; clear HO_233001; clear HO_233002; clear BK196; clear BK208; clear BK232; clear HB; have HO_197001 := n0_; have HO_197002 := n1_; have HO_209001 := n2_; have HO_209002 := n3_; have HO_233001 := n4_; have HO_233002 := n5_; have BK196 := n6_; have BK208 := n7_; have BK232 := n8_; have HB := n9_; clear n0_ n1_ n2_ n3_ n4_ n5_ n6_ n7_ n8_ n9_; (try clear hb); (try clear hb2); (try clear hk); (try clear hi)))
                              go_ret
                              exact ⟨by first | rfl | (simp [errW_none, errW_some] <;> rfl) | (simp [*, errW_none, errW_some] <;> rfl), by repeat (first | (with_reducible first | exact HB.out | apply below_alloc | apply pw_below_drewN | apply below_drew1 | refine below_set ?_ GE196.out | refine below_set ?_ GE208.out | refine below_set ?_ GE232.out) | exact HB.out)⟩
                            · rw [if_neg c97] at H
                              have c97b0 : decide (t234 < 0) = false := decide_eq_false c97
                              clear c97
                              by_cases c102 : t234 = t217
                              · rw [if_pos c102] at H
                                have c102b0 : (t234 == t217) = true := beq_iff_eq.mpr c102
                                have c102b1 : (t234 != t217) = false := bne_eq_false_iff_eq.mpr c102
                                clear c102
                                obtain rfl := Option.some.inj H
                                have hnb103 := NB208_196.out
                                have hnc103 := NB196_208.out
                                have hnb104 := NB208_232.out
                                have hnc104 := NB232_208.out
                                have hcz105_0 : wc.cell? ⟨gb208, 0, none⟩ = some (.int .i64 t200) := (blk_cell BK208.out 0).trans rfl
                                have hcz105_1 : wc.cell? ⟨gb208, 1, none⟩ = some (.slice Ao22 t218.length co22) := (blk_cell BK208.out 1).trans rfl
                                have hcz105_2 : wc.cell? ⟨gb208, 2, none⟩ = some (.slice Ao23 t219.length co23) := (blk_cell BK208.out 2).trans rfl
                                have hfz105_0 := blk_frozen BK208.out 0
                                have hfz105_1 := blk_frozen BK208.out 1
                                have hfz105_2 := blk_frozen BK208.out 2
                                go_wp2_with (first | ((with_reducible refine gate_callee (f := 16) rfl ?_); refine goesM_ (some 92) rfl rfl Try.func16 #[.agg #[.int .i64 t200, .slice Ao22 t218.length co22, .slice Ao23 t219.length co23], .int .i64 1] rfl ?_; (with_reducible refine (laws_heldJacobi.calls kj65 t200 _ _ t218 _ _ t219 1 t234 _ ?side1 ?side2 ?side3 ?side4 A96.out).mono ?_); (case side1 => exact cs ((Kd.R_reads' HO_209001.out).2.2)); (case side2 => exact (Kd.R_reads' HO_209001.out).2.1); (case side3 => exact cs ((Kd.R_reads' HO_209002.out).2.2)); (case side4 => exact (Kd.R_reads' HO_209002.out).2.1); rintro e w106 ⟨rfl, hb⟩; refine ⟨_, rfl, ?_⟩; have n0_ := Aside0.mk (Kd.R_below (rs HO_197001) hb); have n1_ := Aside0.mk (Kd.R_below (rs HO_197002) hb); have n2_ := Aside0.mk (Kd.R_below (rs HO_209001) hb); have n3_ := Aside0.mk (Kd.R_below (rs HO_209002) hb); have n4_ := Aside0.mk (Kd.R_below (rs HO_233001) hb); have n5_ := Aside0.mk (Kd.R_below (rs HO_233002) hb); have n6_ := Aside0.mk (blk_below (g := gb196) (o := .cells #[.int .i64 t188, .slice Ao14 t189.length co14, .slice Ao15 t192.length co15] 24 (0, 0)) (by (with_reducible repeat (first | refine blk_drewN ?_ _ | refine blk_drew ?_ | refine blk_alloc ?_ _)); exact BK196.out) hb); have n7_ := Aside0.mk (blk_below (g := gb208) (o := .cells #[.int .i64 t200, .slice Ao22 t218.length co22, .slice Ao23 t219.length co23] 24 (0, 0)) (by (with_reducible repeat (first | refine blk_drewN ?_ _ | refine blk_drew ?_ | refine blk_alloc ?_ _)); exact BK208.out) hb); have n8_ := Aside0.mk (blk_below (g := gb232) (o := .cells #[.int .i64 t224, .slice Ao79 t225.length co79, .slice Ao80 t228.length co80] 24 (0, 0)) (by (with_reducible repeat (first | refine blk_drewN ?_ _ | refine blk_drew ?_ | refine blk_alloc ?_ _)); exact BK232.out) hb); have n9_ := Aside0.mk (below_step (by repeat (first | (with_reducible first | exact HB.out | apply below_alloc | apply pw_below_drewN | apply below_drew1 | refine below_set ?_ GE196.out | refine below_set ?_ GE208.out | refine below_set ?_ GE232.out) | exact HB.out)) hb); clear HO_197001; clear HO_197002; clear HO_209001; clear HO_209002; clear HO_233001; clear HO_233002; clear BK196; clear BK208; clear BK232; clear HB; have HO_197001 := n0_; have HO_197002 := n1_; have HO_209001 := n2_; have HO_209002 := n3_; have HO_233001 := n4_; have HO_233002 := n5_; have BK196 := n6_; have BK208 := n7_; have BK232 := n8_; have HB := n9_; clear n0_ n1_ n2_ n3_ n4_ n5_ n6_ n7_ n8_ n9_; (try clear hb); (try clear hb2); (try clear hk); (try clear hi)))
                                go_ret
                                exact ⟨by first | rfl | (simp [errW_none, errW_some] <;> rfl) | (simp [*, errW_none, errW_some] <;> rfl), by repeat (first | (with_reducible first | exact HB.out | apply below_alloc | apply pw_below_drewN | apply below_drew1 | refine below_set ?_ GE196.out | refine below_set ?_ GE208.out | refine below_set ?_ GE232.out) | exact HB.out)⟩
                              · rw [if_neg c102] at H
                                have c102b0 : (t234 == t217) = false := beq_eq_false_iff_ne.mpr c102
                                have c102b1 : (t234 != t217) = true := bne_iff_ne.mpr c102
                                obtain rfl := Option.some.inj H
                                have hnb107 := NB208_196.out
                                have hnc107 := NB196_208.out
                                have hnb108 := NB208_232.out
                                have hnc108 := NB232_208.out
                                have hcz109_0 : wc.cell? ⟨gb208, 0, none⟩ = some (.int .i64 t200) := (blk_cell BK208.out 0).trans rfl
                                have hcz109_1 : wc.cell? ⟨gb208, 1, none⟩ = some (.slice Ao22 t218.length co22) := (blk_cell BK208.out 1).trans rfl
                                have hcz109_2 : wc.cell? ⟨gb208, 2, none⟩ = some (.slice Ao23 t219.length co23) := (blk_cell BK208.out 2).trans rfl
                                have hfz109_0 := blk_frozen BK208.out 0
                                have hfz109_1 := blk_frozen BK208.out 1
                                have hfz109_2 := blk_frozen BK208.out 2
                                go_wp2_with (first | ((with_reducible refine gate_callee (f := 16) rfl ?_); refine goesM_ (some 92) rfl rfl Try.func16 #[.agg #[.int .i64 t200, .slice Ao22 t218.length co22, .slice Ao23 t219.length co23], .int .i64 1] rfl ?_; (with_reducible refine (laws_heldJacobi.calls kj65 t200 _ _ t218 _ _ t219 1 t234 _ ?side1 ?side2 ?side3 ?side4 A96.out).mono ?_); (case side1 => exact cs ((Kd.R_reads' HO_209001.out).2.2)); (case side2 => exact (Kd.R_reads' HO_209001.out).2.1); (case side3 => exact cs ((Kd.R_reads' HO_209002.out).2.2)); (case side4 => exact (Kd.R_reads' HO_209002.out).2.1); rintro e w110 ⟨rfl, hb⟩; refine ⟨_, rfl, ?_⟩; have n0_ := Aside0.mk (Kd.R_below (rs HO_197001) hb); have n1_ := Aside0.mk (Kd.R_below (rs HO_197002) hb); have n2_ := Aside0.mk (Kd.R_below (rs HO_209001) hb); have n3_ := Aside0.mk (Kd.R_below (rs HO_209002) hb); have n4_ := Aside0.mk (Kd.R_below (rs HO_233001) hb); have n5_ := Aside0.mk (Kd.R_below (rs HO_233002) hb); have n6_ := Aside0.mk (blk_below (g := gb196) (o := .cells #[.int .i64 t188, .slice Ao14 t189.length co14, .slice Ao15 t192.length co15] 24 (0, 0)) (by (with_reducible repeat (first | refine blk_drewN ?_ _ | refine blk_drew ?_ | refine blk_alloc ?_ _)); exact BK196.out) hb); have n7_ := Aside0.mk (blk_below (g := gb208) (o := .cells #[.int .i64 t200, .slice Ao22 t218.length co22, .slice Ao23 t219.length co23] 24 (0, 0)) (by (with_reducible repeat (first | refine blk_drewN ?_ _ | refine blk_drew ?_ | refine blk_alloc ?_ _)); exact BK208.out) hb); have n8_ := Aside0.mk (blk_below (g := gb232) (o := .cells #[.int .i64 t224, .slice Ao79 t225.length co79, .slice Ao80 t228.length co80] 24 (0, 0)) (by (with_reducible repeat (first | refine blk_drewN ?_ _ | refine blk_drew ?_ | refine blk_alloc ?_ _)); exact BK232.out) hb); have n9_ := Aside0.mk (below_step (by repeat (first | (with_reducible first | exact HB.out | apply below_alloc | apply pw_below_drewN | apply below_drew1 | refine below_set ?_ GE196.out | refine below_set ?_ GE208.out | refine below_set ?_ GE232.out) | exact HB.out)) hb); clear HO_197001; clear HO_197002; clear HO_209001; clear HO_209002; clear HO_233001; clear HO_233002; clear BK196; clear BK208; clear BK232; clear HB; have HO_197001 := n0_; have HO_197002 := n1_; have HO_209001 := n2_; have HO_209002 := n3_; have HO_233001 := n4_; have HO_233002 := n5_; have BK196 := n6_; have BK208 := n7_; have BK232 := n8_; have HB := n9_; clear n0_ n1_ n2_ n3_ n4_ n5_ n6_ n7_ n8_ n9_; (try clear hb); (try clear hb2); (try clear hk); (try clear hi)))
                                go_ret
                                exact ⟨by first | rfl | (simp [errW_none, errW_some] <;> rfl) | (simp [*, errW_none, errW_some] <;> rfl), by repeat (first | (with_reducible first | exact HB.out | apply below_alloc | apply pw_below_drewN | apply below_drew1 | refine below_set ?_ GE196.out | refine below_set ?_ GE208.out | refine below_set ?_ GE232.out) | exact HB.out)⟩
                    · rw [if_neg c63] at H
                      have c63b0 : (t220 == t217) = false := beq_eq_false_iff_ne.mpr c63
                      have c63b1 : (t220 != t217) = true := bne_iff_ne.mpr c63
                      obtain rfl := Option.some.inj H
                      have hnb111 := NB208_196.out
                      have hnc111 := NB196_208.out
                      have hcz112_0 : wc.cell? ⟨gb208, 0, none⟩ = some (.int .i64 t200) := (blk_cell BK208.out 0).trans rfl
                      have hcz112_1 : wc.cell? ⟨gb208, 1, none⟩ = some (.slice Ao22 t201.length co22) := (blk_cell BK208.out 1).trans rfl
                      have hcz112_2 : wc.cell? ⟨gb208, 2, none⟩ = some (.slice Ao23 t204.length co23) := (blk_cell BK208.out 2).trans rfl
                      have hfz112_0 := blk_frozen BK208.out 0
                      have hfz112_1 := blk_frozen BK208.out 1
                      have hfz112_2 := blk_frozen BK208.out 2
                      go_wp2_with (first | ((with_reducible refine gate_callee (f := 15) rfl ?_); refine goesM_ (some 65) rfl rfl Try.func15 #[.agg #[.int .i64 t200, .slice Ao22 t201.length co22, .slice Ao23 t204.length co23], .int .i64 1] rfl ?_; (with_reducible refine (laws_markJacobi.calls kj38 t200 (fun k_ => some k_ = (.slice Ao22 t201.length co22 : Value).ownBlock) (.slice Ao22 t201.length co22) t201 (fun k_ => some k_ = (.slice Ao23 t204.length co23 : Value).ownBlock) (.slice Ao23 t204.length co23) t204 1 t217 t218 t219 w _ ?side1 ?side2 ?side3 ?side4 ?side5 A55.out).mono ?_); (case side1 => repeat (first | (with_reducible first | exact HB.out | apply below_alloc | apply pw_below_drewN | apply below_drew1 | refine below_set ?_ GE196.out | refine below_set ?_ GE208.out) | exact HB.out)); (case side2 => exact Kd.R_tight rfl HO_209001.out); (case side3 => exact fun k_ e_ => (HO_209001.out.1 k_ e_.symm).2.2); (case side4 => exact Kd.R_tight rfl HO_209002.out); (case side5 => exact fun k_ e_ => (HO_209002.out.1 k_ e_.symm).2.2); rintro e w113 ⟨rfl, hy0, hy1, hb, hkp⟩; refine ⟨_, rfl, ?_⟩; have n0_ := Aside0.mk (Kd.R_mono (ok' := fun k_ => some k_ ≠ (.slice Ao15 t192.length co15 : Value).ownBlock ∧ some k_ ≠ (.slice Ao22 t201.length co22 : Value).ownBlock ∧ some k_ ≠ (.slice Ao23 t204.length co23 : Value).ownBlock) (Kd.R_keptB (HO_197001.out) hkp (fun k_ hk_ hs_ => Or.elim hs_ (fun e_ => (hk_.2.1) e_) (fun e_ => (hk_.2.2) e_))) (fun k_ hk_ => ⟨hk_.1.1, hk_.1.2.1, hk_.1.2.2⟩)); have n1_ := Aside0.mk (Kd.R_mono (ok' := fun k_ => some k_ ≠ (.slice Ao14 t189.length co14 : Value).ownBlock ∧ some k_ ≠ (.slice Ao22 t201.length co22 : Value).ownBlock ∧ some k_ ≠ (.slice Ao23 t204.length co23 : Value).ownBlock) (Kd.R_keptB (HO_197002.out) hkp (fun k_ hk_ hs_ => Or.elim hs_ (fun e_ => (hk_.2.1) e_) (fun e_ => (hk_.2.2) e_))) (fun k_ hk_ => ⟨hk_.1.1, hk_.1.2.1, hk_.1.2.2⟩)); have n2_ := Aside0.mk (Kd.R_reok rfl hy0 (fun k_ e_ => HO_209001.out.1 k_ e_)); have n3_ := Aside0.mk (Kd.R_reok rfl hy1 (fun k_ e_ => HO_209002.out.1 k_ e_)); have n4_ := Aside0.mk (blk_kept (by (with_reducible repeat (first | refine blk_drewN ?_ _ | refine blk_drew ?_ | refine blk_alloc ?_ _)); exact BK196.out) hkp (fun hs_ => Or.elim hs_ (fun e_ => (fun e_ => (Kd.R_ne HO_209001.out BK196.out (by decide)) e_) e_) (fun e_ => (fun e_ => (Kd.R_ne HO_209002.out BK196.out (by decide)) e_) e_))); have n5_ := Aside0.mk (blk_kept (by (with_reducible repeat (first | refine blk_drewN ?_ _ | refine blk_drew ?_ | refine blk_alloc ?_ _)); exact BK208.out) hkp (fun hs_ => Or.elim hs_ (fun e_ => (fun e_ => (Kd.R_ne HO_209001.out BK208.out (by decide)) e_) e_) (fun e_ => (fun e_ => (Kd.R_ne HO_209002.out BK208.out (by decide)) e_) e_))); have n6_ := Aside0.mk (hb); clear HO_197001; clear HO_197002; clear HO_209001; clear HO_209002; clear BK196; clear BK208; clear HB; have HO_197001 := n0_; have HO_197002 := n1_; have HO_209001 := n2_; have HO_209002 := n3_; have BK196 := n4_; have BK208 := n5_; have HB := n6_; clear n0_ n1_ n2_ n3_ n4_ n5_ n6_; (try clear hb); (try clear hkp); (try clear hy0); (try clear hy1); have hcz114_0 : w113.cell? ⟨gb208, 0, none⟩ = some (.int .i64 t200) := (blk_cell BK208.out 0).trans rfl; have hcz114_1 : w113.cell? ⟨gb208, 1, none⟩ = some (.slice Ao22 t201.length co22) := (blk_cell BK208.out 1).trans rfl; have hcz114_2 : w113.cell? ⟨gb208, 2, none⟩ = some (.slice Ao23 t204.length co23) := (blk_cell BK208.out 2).trans rfl; have hfz114_0 := blk_frozen BK208.out 0; have hfz114_1 := blk_frozen BK208.out 1; have hfz114_2 := blk_frozen BK208.out 2) | ((with_reducible refine gate_callee (f := 16) rfl ?_); refine goesL_ (some 68) rfl rfl Try.func16 (by kernel_rfl) rfl #[.agg #[.int .i64 t200, .slice Ao22 t218.length co22, .slice Ao23 t219.length co23], .int .i64 1] rfl (by (try simp only [List.map_toArray, List.map_cons, List.map_nil]); first | done | (rw [show t218.length = t201.length from (Kd.R_reads' HO_209001.out).1.symm, show t219.length = t204.length from (Kd.R_reads' HO_209002.out).1.symm] <;> rfl) | rfl | (simp only [List.length_drop, List.length_take]; rfl)) ?_; (with_reducible refine (laws_heldJacobi.calls kj38 t200 _ _ t218 _ _ t219 1 t220 _ ?side1 ?side2 ?side3 ?side4 A56.out).mono ?_); (case side1 => exact cs ((Kd.R_reads' HO_209001.out).2.2)); (case side2 => rw [show t218.length = t201.length from (Kd.R_reads' HO_209001.out).1.symm]; exact (Kd.R_reads' HO_209001.out).2.1); (case side3 => exact cs ((Kd.R_reads' HO_209002.out).2.2)); (case side4 => rw [show t219.length = t204.length from (Kd.R_reads' HO_209002.out).1.symm]; exact (Kd.R_reads' HO_209002.out).2.1); rintro e w115 ⟨rfl, hb⟩; refine ⟨_, rfl, ?_⟩; have n0_ := Aside0.mk (Kd.R_below (rs HO_197001) hb); have n1_ := Aside0.mk (Kd.R_below (rs HO_197002) hb); have n2_ := Aside0.mk (Kd.R_below (rs HO_209001) hb); have n3_ := Aside0.mk (Kd.R_below (rs HO_209002) hb); have n4_ := Aside0.mk (blk_below (g := gb196) (o := .cells #[.int .i64 t188, .slice Ao14 t189.length co14, .slice Ao15 t192.length co15] 24 (0, 0)) (by (with_reducible repeat (first | refine blk_drewN ?_ _ | refine blk_drew ?_ | refine blk_alloc ?_ _)); exact BK196.out) hb); have n5_ := Aside0.mk (blk_below (g := gb208) (o := .cells #[.int .i64 t200, .slice Ao22 t201.length co22, .slice Ao23 t204.length co23] 24 (0, 0)) (by (with_reducible repeat (first | refine blk_drewN ?_ _ | refine blk_drew ?_ | refine blk_alloc ?_ _)); exact BK208.out) hb); have n6_ := Aside0.mk (below_step (by repeat (first | (with_reducible first | exact HB.out | apply below_alloc | apply pw_below_drewN | apply below_drew1 | refine below_set ?_ GE196.out | refine below_set ?_ GE208.out) | exact HB.out)) hb); clear HO_197001; clear HO_197002; clear HO_209001; clear HO_209002; clear BK196; clear BK208; clear HB; have HO_197001 := n0_; have HO_197002 := n1_; have HO_209001 := n2_; have HO_209002 := n3_; have BK196 := n4_; have BK208 := n5_; have HB := n6_; clear n0_ n1_ n2_ n3_ n4_ n5_ n6_; (try clear hb); (try clear hb2); (try clear hk); (try clear hi)))
                      go_ret
                      exact ⟨by first | rfl | (simp [errW_none, errW_some] <;> rfl) | (simp [*, errW_none, errW_some] <;> rfl), by repeat (first | (with_reducible first | exact HB.out | apply below_alloc | apply pw_below_drewN | apply below_drew1 | refine below_set ?_ GE196.out | refine below_set ?_ GE208.out) | exact HB.out)⟩
          · replace c37 := Bool.eq_false_iff.mpr c37
            subst c37
            have H1 : (some false) = some r := by rw [if_neg (show ¬ (false = true) by decide)] at H; exact H
            clear H
            have H := H1
            clear H1
            obtain rfl := Option.some.inj H
            go_wp2_with (first | ((with_reducible refine gate_callee (f := 10) rfl ?_); refine goesM_ (some 44) rfl rfl Try.func10 #[.slice A1 l1.length c1] rfl ?_; (with_reducible refine (laws_toInt64S.calls kj7 _ _ l1 t210 _ ?side1 ?side2 A35.out).mono ?_); (case side1 => exact cs ((Kd.C_below HR1.out HB.out))); (case side2 => exact HC1.out); rintro e w116 ⟨v211, rfl, ho0, hb⟩; refine ⟨_, rfl, ?_⟩; have n0_ := Aside0.mk (Kd.R_elder' (rs HO_7) (Kd.R_base ho0) hb); have n1_ := Aside0.mk (Kd.R_elder' (rs HO_197001) (Kd.R_base ho0) hb); have n2_ := Aside0.mk (Kd.R_elder' (rs HO_197002) (Kd.R_base ho0) hb); have n3_ := Aside0.mk (Kd.R_elder' (rs HO_209001) (Kd.R_base ho0) hb); have n4_ := Aside0.mk (Kd.R_elder' (rs HO_209002) (Kd.R_base ho0) hb); have n5_ := Aside0.mk (Kd.R_lower (Kd.R_new' (Kd.R_new' (Kd.R_new' (Kd.R_new' (Kd.R_new' ho0 (Kd.R_lt (rs HO_7))) (Kd.R_lt (rs HO_197001))) (Kd.R_lt (rs HO_197002))) (Kd.R_lt (rs HO_209001))) (Kd.R_lt (rs HO_209002))) (below_size (by repeat (first | (with_reducible first | exact HB.out | apply below_alloc | apply pw_below_drewN | apply below_drew1 | refine below_set ?_ GE196.out | refine below_set ?_ GE208.out) | exact HB.out)))); have n6_ := Aside0.mk (blk_below (g := gb196) (o := .cells #[.int .i64 t188, .slice Ao14 t189.length co14, .slice Ao15 t192.length co15] 24 (0, 0)) (by (with_reducible repeat (first | refine blk_drewN ?_ _ | refine blk_drew ?_ | refine blk_alloc ?_ _)); exact BK196.out) hb); have n7_ := Aside0.mk (blk_below (g := gb208) (o := .cells #[.int .i64 t200, .slice Ao22 t201.length co22, .slice Ao23 t204.length co23] 24 (0, 0)) (by (with_reducible repeat (first | refine blk_drewN ?_ _ | refine blk_drew ?_ | refine blk_alloc ?_ _)); exact BK208.out) hb); have n8_ := Aside0.mk (below_step (by repeat (first | (with_reducible first | exact HB.out | apply below_alloc | apply pw_below_drewN | apply below_drew1 | refine below_set ?_ GE196.out | refine below_set ?_ GE208.out) | exact HB.out)) hb); clear HO_7; clear HO_197001; clear HO_197002; clear HO_209001; clear HO_209002; clear BK196; clear BK208; clear HB; have HO_7 := n0_; have HO_197001 := n1_; have HO_197002 := n2_; have HO_209001 := n3_; have HO_209002 := n4_; have HO212 := n5_; have BK196 := n6_; have BK208 := n7_; have HB := n8_; clear n0_ n1_ n2_ n3_ n4_ n5_ n6_ n7_ n8_; (try clear hb); (try clear hb2); (try clear hk); (try clear hi); (try clear ho0); obtain ⟨Ao117, co117, eo117⟩ := Kd.R_slice HO212.out; subst eo117) | ((with_reducible refine gate_callee (f := 13) rfl ?_); refine goesM_ (some 45) rfl rfl Try.func13 #[.slice Ao17 t197.length co17, .slice Ao117 t210.length co117] rfl ?_; (with_reducible refine (laws_eqInt64S.calls kj7 _ _ t197 _ _ t210 false _ ?side1 ?side2 ?side3 ?side4 A36.out).mono ?_); (case side1 => exact cs ((Kd.R_reads' HO_7.out).2.2)); (case side2 => exact (Kd.R_reads' HO_7.out).2.1); (case side3 => exact cs ((Kd.R_reads' HO212.out).2.2)); (case side4 => exact (Kd.R_reads' HO212.out).2.1); rintro e w' ⟨rfl, ⟨nd, rfl⟩⟩; refine ⟨_, rfl, ?_⟩))
            go_ret
            exact ⟨by first | rfl | (simp [errW_none, errW_some] <;> rfl) | (simp [*, errW_none, errW_some] <;> rfl), by repeat (first | (with_reducible first | exact HB.out | apply below_alloc | apply pw_below_drewN | apply below_drew1 | refine below_set ?_ GE196.out | refine below_set ?_ GE208.out) | exact HB.out)⟩

/-- THE ONE PURE STATEMENT of laws_FnExactJacobiOfSteps: yours. -/
def laws_FnExactJacobiOfSteps.Pure : Prop := ∀ (a0 : Int) (l1 : List Int), (Lit.int .i64 a0).wf = true → l1.length ≤ maxLen → l1.length * 8 ≤ 140737488351232 → (∀ x ∈ l1, (Lit.int .i64 x).wf = true) → ∃ k, laws_FnExactJacobiOfSteps.f k a0 l1 = some true
theorem laws_FnExactJacobiOfSteps.walk (P : laws_FnExactJacobiOfSteps.Pure) (a0 : Int) (a1 : Option Addr) (len1 cap1 : Nat) (z1 : List Int) (w : World) (w0 : (Lit.int .i64 a0).wf = true) (w1 : (a1 = none ∧ len1 = 0 ∧ cap1 = 0 ∧ z1 = []) ∨ ∃ x, a1 = some x ∧ len1 ≤ cap1 ∧ cap1 ≤ maxLen ∧ z1.length = cap1 ∧ (∀ i, i < z1.length → w.cell? (x.add i) = some (.int .i64 (z1.getD i 0))) ∧ ∀ n ∈ z1, (Lit.int .i64 n).wf = true) (y1 : len1 * 8 ≤ 140737488351232) :
    Calls Try.prog 3 #[.int .i64 a0, .slice a1 len1 cap1] w fun e w' => e = .returned (.bool true) ∧ Below w.heap.size w w' := by
  obtain ⟨l1, rfl, hr1, hm1, hw1, hc1⟩ := ReadsInt.ofRowC w1
  obtain ⟨k, h⟩ := P a0 l1 w0 hm1 y1 hw1
  refine (laws_FnExactJacobiOfSteps.calls k a0 _ _ l1 true w (Kd.C_of_reads (d := (0 : Int)) (h1 := fun _ => rfl) hr1) hc1 h).mono ?_
  rintro e w' ⟨rfl, hd⟩
  exact ⟨rfl, hd⟩

end Go.Proofs.Ytepigphelclpcaa.H
