/- Joined texts of a claim: the printed functions and what is proved of them. -/
import Derived.Test.YtnigpjcnffgfgaaYHx0
import Derived.Test.YtnigpjcnffgfgaaMb2
import Derived.Test.YtnigpjcnffgfgaaMab2
import Derived.Test.YtnigpjcnffgfgaaMab3
import Derived.Test.YtnigpjcnffgfgaaMb3
import Derived.Test.YtnigpjcnffgfgaaMb5
namespace Go.Proofs.Ytnigpjcnffgfgaa.H
open Go.RowKit Go.Proofs.YtnigpjcnffgfgaaW.PrintWords Go.Proofs.YtnigpjcnffgfgaaW.PrintLast Go.Proofs.YtnigpjcnffgfgaaW.PrintMore
attribute [local go_sem] max2_int min2_int max_two min_two max_three min_three max_four min_four   -- for this text's walks alone
set_option linter.unusedVariables false
set_option linter.unusedSimpArgs false
mutual
def laws_FnExactMomentsOfNodes.j0 : Nat → Int → List Int → List Int → Int → Int → List Int → List Int → Int → Bool → Int → List Int → Int → List Int → Option (Bool)
 | 0, _, _, _, _, _, _, _, _, _, _, _, _, _ => none
 | k + 1, x0, x1, x2, x3, x10, x11, x12, x14, x56, x491000, x491001, x503000, x503001 => if x56 = true then (some false) else ((laws_toInt64S.f k x1).bind fun t504 => ((laws_eqInt64S.f k x11 t504).bind fun t507 => (if t507 = true then ((laws_toInt64S.f k x2).bind fun t508 => ((laws_eqInt64S.f k x12 t508).bind fun t511 => (if t511 = true then ((laws_markInt64S.f k x11 1).bind fun bt512 => ((laws_markInt64S.f k x12 bt512.1).bind fun bt514 => (if bt514.1 < 0 then (laws_FnExactMomentsOfNodes.j1 k x0 x1 x2 x3 x10 true x491000 x491001 x503000 x503001) else ((laws_eqMoments.f k x503000 x503001 x491000 x491001).bind fun t516 => (if t516 = true then (laws_FnExactMomentsOfNodes.j1 k x0 x1 x2 x3 x10 (x14 != x10) x491000 x491001 x503000 x503001) else (laws_FnExactMomentsOfNodes.j1 k x0 x1 x2 x3 x10 true x491000 x491001 x503000 x503001)))))) else (some false)))) else (some false))))
def laws_FnExactMomentsOfNodes.j1 : Nat → Int → List Int → List Int → Int → Int → Bool → Int → List Int → Int → List Int → Option (Bool)
 | 0, _, _, _, _, _, _, _, _, _, _ => none
 | k + 1, x0, x1, x2, x3, x10, x85, x491000, x491001, x503000, x503001 => if x85 = true then (some false) else ((laws_markMoments.f k x503000 x503001 1).bind fun bt517 => ((laws_heldMoments.f k x503000 bt517.2 1).bind fun t519 => (if t519 < 0 then (some false) else (if t519 = bt517.1 then ((laws_toInt64S.f k x1).bind fun t520 => ((laws_toInt64S.f k x2).bind fun t523 => ((impl_MomentsOfNodes.f k x0 t520 t523 x3).bind fun bt526 => ((laws_eqMoments.f k bt526.1 bt526.2.1 x491000 x491001).bind fun t532 => (if t532 = true then (laws_FnExactMomentsOfNodes.j2 k bt517.1 (bt526.2.2 != x10) x503000 bt517.2) else (laws_FnExactMomentsOfNodes.j2 k bt517.1 true x503000 bt517.2)))))) else (some false)))))
def laws_FnExactMomentsOfNodes.j2 : Nat → Int → Bool → Int → List Int → Option (Bool)
 | 0, _, _, _, _ => none
 | k + 1, x16, x115, x503000, x503001 => if x115 = true then (some false) else ((laws_heldMoments.f k x503000 x503001 1).bind fun t533 => (if t533 < 0 then (some false) else (if t533 = x16 then (some true) else (some false))))
end
def laws_FnExactMomentsOfNodes.f (k : Nat) (a0 : Int) (l1 : List Int) (l2 : List Int) (a3 : Int) : Option (Bool) := if (l1.length : Int) > 1048576 then (some true) else (if (l2.length : Int) > 1048576 then (some true) else ((laws_toInt64S.f k l1).bind fun t479 => ((laws_toInt64S.f k l2).bind fun t482 => ((spec_MomentsOfNodes.f k a0 t479 t482 a3).bind fun bt485 => ((laws_toInt64S.f k l1).bind fun t491 => ((laws_toInt64S.f k l2).bind fun t494 => ((impl_MomentsOfNodes.f k a0 t491 t494 a3).bind fun bt497 => ((laws_eqMoments.f k bt497.1 bt497.2.1 bt485.1 bt485.2.1).bind fun t503 => (if t503 = true then (laws_FnExactMomentsOfNodes.j0 k a0 l1 l2 a3 bt485.2.2 t491 t494 bt497.2.2 (bt497.2.2 != bt485.2.2) bt485.1 bt485.2.1 bt497.1 bt497.2.1) else (laws_FnExactMomentsOfNodes.j0 k a0 l1 l2 a3 bt485.2.2 t491 t494 bt497.2.2 true bt485.1 bt485.2.1 bt497.1 bt497.2.1))))))))))
set_option maxHeartbeats 8000000 in
set_option maxRecDepth 100000 in
theorem laws_FnExactMomentsOfNodes.calls (k : Nat) (a0 : Int) (A1 : Option Addr) (c1 : Nat) (l1 : List Int) (A2 : Option Addr) (c2 : Nat) (l2 : List Int) (a3 : Int) (r : Bool) (w : World) (hr1 : Kd.C (Kd.int .i64) w A1 l1.length l1) (hc1 : l1.length ≤ c1) (hr2 : Kd.C (Kd.int .i64) w A2 l2.length l2) (hc2 : l2.length ≤ c2) (h : laws_FnExactMomentsOfNodes.f k a0 l1 l2 a3 = some r) :
  Calls Try.prog 4 #[.int .i64 a0, .slice A1 l1.length c1, .slice A2 l2.length c2, .int .i64 a3] w fun e w' => e = .returned (.bool r) ∧ Below w.heap.size w w' := by
 have hu30 := Try.underlying30
 have HR1 := as0 hr1
 have HC1 := as0 hc1
 clear hr1 hc1
 have HR2 := as0 hr2
 have HC2 := as0 hc2
 clear hr2 hc2
 have HB := as0 (Below.refl w.heap.size w)
 have H : (if (l1.length : Int) > 1048576 then (some true) else (if (l2.length : Int) > 1048576 then (some true) else ((laws_toInt64S.f k l1).bind fun t479 => ((laws_toInt64S.f k l2).bind fun t482 => ((spec_MomentsOfNodes.f k a0 t479 t482 a3).bind fun bt485 => ((laws_toInt64S.f k l1).bind fun t491 => ((laws_toInt64S.f k l2).bind fun t494 => ((impl_MomentsOfNodes.f k a0 t491 t494 a3).bind fun bt497 => ((laws_eqMoments.f k bt497.1 bt497.2.1 bt485.1 bt485.2.1).bind fun t503 => (if t503 = true then (laws_FnExactMomentsOfNodes.j0 k a0 l1 l2 a3 bt485.2.2 t491 t494 bt497.2.2 (bt497.2.2 != bt485.2.2) bt485.1 bt485.2.1 bt497.1 bt497.2.1) else (laws_FnExactMomentsOfNodes.j0 k a0 l1 l2 a3 bt485.2.2 t491 t494 bt497.2.2 true bt485.1 bt485.2.1 bt497.1 bt497.2.1))))))))))) = some r := h
 clear h
 by_cases c5 : (l1.length : Int) > 1048576
 ·
  rw [if_pos c5] at H
  have c5b0 : decide (1048576 < (l1.length : Int)) = true := decide_eq_true c5
  have c5b1 : decide (1048576 < l1.length) = true := decide_eq_true (by omega)
  clear c5
  obtain rfl := Option.some.inj H
  go_enter Try.func4, Try.ntmps4
  go_wp2
  go_ret
  exact ⟨er_, bs HB⟩
 ·
  rw [if_neg c5] at H
  have c5b0 : decide (1048576 < (l1.length : Int)) = false := decide_eq_false c5
  have c5b1 : decide (1048576 < l1.length) = false := decide_eq_false (by omega)
  clear c5
  by_cases c6 : (l2.length : Int) > 1048576
  ·
   rw [if_pos c6] at H
   have c6b0 : decide (1048576 < (l2.length : Int)) = true := decide_eq_true c6
   have c6b1 : decide (1048576 < l2.length) = true := decide_eq_true (by omega)
   clear c6
   obtain rfl := Option.some.inj H
   go_enter Try.func4, Try.ntmps4
   go_wp2
   go_ret
   exact ⟨er_, bs HB⟩
  ·
   rw [if_neg c6] at H
   have c6b0 : decide (1048576 < (l2.length : Int)) = false := decide_eq_false c6
   have c6b1 : decide (1048576 < l2.length) = false := decide_eq_false (by omega)
   clear c6
   replace H := Option.bind_eq_some_iff.mp H
   obtain ⟨t479, A70, H⟩ := H
   have A7 := as0 A70
   clear A70
   replace H := Option.bind_eq_some_iff.mp H
   obtain ⟨t482, A80, H⟩ := H
   have A8 := as0 A80
   clear A80
   replace H := Option.bind_eq_some_iff.mp H
   obtain ⟨⟨t485, t486, t489⟩, A90, H⟩ := H
   have A9 := as0 A90
   clear A90
   replace H := Option.bind_eq_some_iff.mp H
   obtain ⟨t491, A100, H⟩ := H
   have A10 := as0 A100
   clear A100
   replace H := Option.bind_eq_some_iff.mp H
   obtain ⟨t494, A110, H⟩ := H
   have A11 := as0 A110
   clear A110
   replace H := Option.bind_eq_some_iff.mp H
   obtain ⟨⟨t497, t498, t501⟩, A120, H⟩ := H
   have A12 := as0 A120
   clear A120
   have HC13 := as0 H
   clear H
   go_enter Try.func4, Try.ntmps4
   go_upto_region 9 with (first | ((with_reducible refine gate_callee (f := 6) rfl ?_); refine goesM_ (some 29) rfl rfl Try.func6 #[.slice A1 l1.length c1] rfl ?_; (with_reducible refine (laws_toInt64S.calls k _ _ l1 t479 _ ?side1 ?side2 A7.out).mono ?_); (case side1 => exact cs (HR1.out)); (case side2 => exact HC1.out); rintro e w14 ⟨v480, rfl, ho0, hb⟩; refine ⟨_, rfl, ?_⟩; have n0_ := as0 (Kd.R_lower ho0 (below_size (bs HB))); have n1_ := as0 (below_step (bs HB) hb); clear HB; have HO481 := n0_; have HB := n1_; clear n0_ n1_; (try clear hb); (try clear hb2); (try clear hk); (try clear hi); (try clear ho0)) | ((with_reducible refine gate_callee (f := 6) rfl ?_); refine goesM_ (some 31) rfl rfl Try.func6 #[.slice A2 l2.length c2] rfl ?_; (with_reducible refine (laws_toInt64S.calls k _ _ l2 t482 _ ?side1 ?side2 A8.out).mono ?_); (case side1 => exact cs ((Kd.C_below HR2.out HB.out))); (case side2 => exact HC2.out); rintro e w15 ⟨v483, rfl, ho0, hb⟩; refine ⟨_, rfl, ?_⟩; have n0_ := as0 (Kd.R_elder' (rs HO481) (Kd.R_base ho0) hb); have n1_ := as0 (Kd.R_lower (Kd.R_new' ho0 (Kd.R_lt (rs HO481))) (below_size (bs HB))); have n2_ := as0 (below_step (bs HB) hb); clear HO481; clear HB; have HO481 := n0_; have HO484 := n1_; have HB := n2_; clear n0_ n1_ n2_; (try clear hb); (try clear hb2); (try clear hk); (try clear hi); (try clear ho0); obtain ⟨Ao16, co16, eo16⟩ := Kd.R_slice HO481.out; subst eo16; obtain ⟨Ao17, co17, eo17⟩ := Kd.R_slice HO484.out; subst eo17) | ((with_reducible refine gate_callee (f := 11) rfl ?_); refine goesM_ (some 33) rfl rfl Try.func11 #[.int .i64 a0, .slice Ao16 t479.length co16, .slice Ao17 t482.length co17, .int .i64 a3] rfl ?_; (with_reducible refine (spec_MomentsOfNodes.calls k a0 _ _ t479 _ _ t482 a3 t485 t486 t489 _ ?side1 ?side2 ?side3 ?side4 A9.out).mono ?_); (case side1 => exact cs ((Kd.R_reads' HO481.out).2.2)); (case side2 => exact (Kd.R_reads' HO481.out).2.1); (case side3 => exact cs ((Kd.R_reads' HO484.out).2.2)); (case side4 => exact (Kd.R_reads' HO484.out).2.1); rintro e w18 ⟨v487, rfl, ho0, hb⟩; refine ⟨_, rfl, ?_⟩; have n0_ := as0 (Kd.R_elder' (rs HO481) (Kd.R_base ho0) hb); have n1_ := as0 (Kd.R_elder' (rs HO484) (Kd.R_base ho0) hb); have n2_ := as0 (Kd.R_lower (Kd.R_new' (Kd.R_new' ho0 (Kd.R_lt (rs HO481))) (Kd.R_lt (rs HO484))) (below_size (bs HB))); have n3_ := as0 (below_step (bs HB) hb); clear HO481; clear HO484; clear HB; have HO481 := n0_; have HO484 := n1_; have HO488 := n2_; have HB := n3_; clear n0_ n1_ n2_ n3_; (try clear hb); (try clear hb2); (try clear hk); (try clear hi); (try clear ho0)) | ((with_reducible refine gate_dst (N := 9) rfl ?_); refine box_event ?hg (N := 9) ?hd (cs := #[.int .i64 0, .slice none 0 0]) (t := 30) ?hr ?_; (case hd => rfl); (case hg => rfl); (case hr => first | (go_simp; done) | (go_simp; rfl)); intro gb490 hg w19 hbox hb; have n0_ := as0 (Kd.R_below (rs HO481) hb); have n1_ := as0 (Kd.R_below (rs HO484) hb); have n2_ := as0 (Kd.R_below (rs HO488) hb); have n3_ := as0 (below_step (bs HB) hb); have n4_ := as0 (hbox); have n5_ := as0 ((by rw [hg]; exact (below_size (bs HB)) : w.heap.size ≤ gb490)); have n6_ := as0 ((by rw [hg]; exact (below_size (bs HB)) : w.heap.size ≤ gb490)); clear HO481; clear HO484; clear HO488; clear HB; have HO481 := n0_; have HO484 := n1_; have HO488 := n2_; have HB := n3_; have BK490 := n4_; have GW490 := n5_; have GE490 := n6_; clear n0_ n1_ n2_ n3_ n4_ n5_ n6_; clear hb hbox hg; have hcz20_0 : w19.cell? ⟨gb490, 0, none⟩ = some (.int .i64 0) := (blk_cell BK490.out 0).trans rfl; have hcz20_1 : w19.cell? ⟨gb490, 1, none⟩ = some (.slice none 0 0) := (blk_cell BK490.out 1).trans rfl; have hfz20_0 := blk_frozen BK490.out 0; have hfz20_1 := blk_frozen BK490.out 1; obtain ⟨Ao21, co21, eo21⟩ := Kd.R_slice HO488.out; subst eo21) | ((with_reducible refine gate_callee (f := 6) rfl ?_); refine goesM_ (some 37) rfl rfl Try.func6 #[.slice A1 l1.length c1] rfl ?_; (with_reducible refine (laws_toInt64S.calls k _ _ l1 t491 _ ?side1 ?side2 A10.out).mono ?_); (case side1 => exact Kd.C_below HR1.out (by repeat (first | (with_reducible first | exact HB.out | apply below_alloc | apply pw_below_drewN | apply below_drew1 | refine below_set ?_ GE490.out) | exact HB.out))); (case side2 => exact HC1.out); rintro e w22 ⟨v492, rfl, ho0, hb⟩; refine ⟨_, rfl, ?_⟩; have n0_ := as0 (Kd.R_elder' (by (with_reducible repeat (first | apply Kd.R_alloc | apply Kd.R_drewN | apply Kd.R_drew)); exact (Kd.R_mono (Kd.R_far (p := ⟨gb490, 1, none⟩) (Kd.R_far (p := ⟨gb490, 0, none⟩) (Kd.R_types HO481.out BK490.out (by decide)) (fun _ hk => hk.2) (.int .i64 t485)) (fun _ hk => hk.2) (.slice Ao21 t486.length co21)) (fun _ h_ => h_.1))) (Kd.R_base ho0) hb); have n1_ := as0 (Kd.R_elder' (by (with_reducible repeat (first | apply Kd.R_alloc | apply Kd.R_drewN | apply Kd.R_drew)); exact (Kd.R_mono (Kd.R_far (p := ⟨gb490, 1, none⟩) (Kd.R_far (p := ⟨gb490, 0, none⟩) (Kd.R_types HO484.out BK490.out (by decide)) (fun _ hk => hk.2) (.int .i64 t485)) (fun _ hk => hk.2) (.slice Ao21 t486.length co21)) (fun _ h_ => h_.1))) (Kd.R_base ho0) hb); have n2_ := as0 (Kd.R_elder' (by (with_reducible repeat (first | apply Kd.R_alloc | apply Kd.R_drewN | apply Kd.R_drew)); exact (Kd.R_mono (Kd.R_far (p := ⟨gb490, 1, none⟩) (Kd.R_far (p := ⟨gb490, 0, none⟩) (Kd.R_types HO488.out BK490.out (by decide)) (fun _ hk => hk.2) (.int .i64 t485)) (fun _ hk => hk.2) (.slice Ao21 t486.length co21)) (fun _ h_ => h_.1))) (Kd.R_base ho0) hb); have n3_ := as0 (Kd.R_lower (Kd.R_new' (Kd.R_new' (Kd.R_new' ho0 (Kd.R_lt (by (with_reducible repeat (first | apply Kd.R_alloc | apply Kd.R_drewN | apply Kd.R_drew)); exact (Kd.R_mono (Kd.R_far (p := ⟨gb490, 1, none⟩) (Kd.R_far (p := ⟨gb490, 0, none⟩) (Kd.R_types HO481.out BK490.out (by decide)) (fun _ hk => hk.2) (.int .i64 t485)) (fun _ hk => hk.2) (.slice Ao21 t486.length co21)) (fun _ h_ => h_.1))))) (Kd.R_lt (by (with_reducible repeat (first | apply Kd.R_alloc | apply Kd.R_drewN | apply Kd.R_drew)); exact (Kd.R_mono (Kd.R_far (p := ⟨gb490, 1, none⟩) (Kd.R_far (p := ⟨gb490, 0, none⟩) (Kd.R_types HO484.out BK490.out (by decide)) (fun _ hk => hk.2) (.int .i64 t485)) (fun _ hk => hk.2) (.slice Ao21 t486.length co21)) (fun _ h_ => h_.1))))) (Kd.R_lt (by (with_reducible repeat (first | apply Kd.R_alloc | apply Kd.R_drewN | apply Kd.R_drew)); exact (Kd.R_mono (Kd.R_far (p := ⟨gb490, 1, none⟩) (Kd.R_far (p := ⟨gb490, 0, none⟩) (Kd.R_types HO488.out BK490.out (by decide)) (fun _ hk => hk.2) (.int .i64 t485)) (fun _ hk => hk.2) (.slice Ao21 t486.length co21)) (fun _ h_ => h_.1))))) (below_size (by repeat (first | (with_reducible first | exact HB.out | apply below_alloc | apply pw_below_drewN | apply below_drew1 | refine below_set ?_ GE490.out) | exact HB.out)))); have n4_ := as0 (blk_below (g := gb490) (o := .cells #[.int .i64 t485, .slice Ao21 t486.length co21] 30 (0, 0)) (by (with_reducible repeat (first | refine blk_drewN ?_ _ | refine blk_drew ?_ | refine blk_alloc ?_ _)); refine blk_put (cs := #[.int .i64 t485, .slice none 0 0]) ?_ 1 _ rfl; (with_reducible repeat (first | refine blk_drewN ?_ _ | refine blk_drew ?_ | refine blk_alloc ?_ _)); refine blk_put (cs := #[.int .i64 0, .slice none 0 0]) ?_ 0 _ rfl; (with_reducible repeat (first | refine blk_drewN ?_ _ | refine blk_drew ?_ | refine blk_alloc ?_ _)); exact BK490.out) hb); have n5_ := as0 (below_step (by repeat (first | (with_reducible first | exact HB.out | apply below_alloc | apply pw_below_drewN | apply below_drew1 | refine below_set ?_ GE490.out) | exact HB.out)) hb); clear HO481; clear HO484; clear HO488; clear BK490; clear HB; have HO481 := n0_; have HO484 := n1_; have HO488 := n2_; have HO493 := n3_; have BK490 := n4_; have HB := n5_; clear n0_ n1_ n2_ n3_ n4_ n5_; (try clear hb); (try clear hb2); (try clear hk); (try clear hi); (try clear ho0)) | ((with_reducible refine gate_callee (f := 6) rfl ?_); refine goesM_ (some 39) rfl rfl Try.func6 #[.slice A2 l2.length c2] rfl ?_; (with_reducible refine (laws_toInt64S.calls k _ _ l2 t494 _ ?side1 ?side2 A11.out).mono ?_); (case side1 => exact cs ((Kd.C_below HR2.out HB.out))); (case side2 => exact HC2.out); rintro e w23 ⟨v495, rfl, ho0, hb⟩; refine ⟨_, rfl, ?_⟩; have n0_ := as0 (Kd.R_elder' (rs HO481) (Kd.R_base ho0) hb); have n1_ := as0 (Kd.R_elder' (rs HO484) (Kd.R_base ho0) hb); have n2_ := as0 (Kd.R_elder' (rs HO488) (Kd.R_base ho0) hb); have n3_ := as0 (Kd.R_elder' (rs HO493) (Kd.R_base ho0) hb); have n4_ := as0 (Kd.R_lower (Kd.R_new' (Kd.R_new' (Kd.R_new' (Kd.R_new' ho0 (Kd.R_lt (rs HO481))) (Kd.R_lt (rs HO484))) (Kd.R_lt (rs HO488))) (Kd.R_lt (rs HO493))) (below_size (by repeat (first | (with_reducible first | exact HB.out | apply below_alloc | apply pw_below_drewN | apply below_drew1 | refine below_set ?_ GE490.out) | exact HB.out)))); have n5_ := as0 (blk_below (g := gb490) (o := .cells #[.int .i64 t485, .slice Ao21 t486.length co21] 30 (0, 0)) (by (with_reducible repeat (first | refine blk_drewN ?_ _ | refine blk_drew ?_ | refine blk_alloc ?_ _)); exact BK490.out) hb); have n6_ := as0 (below_step (by repeat (first | (with_reducible first | exact HB.out | apply below_alloc | apply pw_below_drewN | apply below_drew1 | refine below_set ?_ GE490.out) | exact HB.out)) hb); clear HO481; clear HO484; clear HO488; clear HO493; clear BK490; clear HB; have HO481 := n0_; have HO484 := n1_; have HO488 := n2_; have HO493 := n3_; have HO496 := n4_; have BK490 := n5_; have HB := n6_; clear n0_ n1_ n2_ n3_ n4_ n5_ n6_; (try clear hb); (try clear hb2); (try clear hk); (try clear hi); (try clear ho0); obtain ⟨Ao24, co24, eo24⟩ := Kd.R_slice HO493.out; subst eo24; obtain ⟨Ao25, co25, eo25⟩ := Kd.R_slice HO496.out; subst eo25) | ((with_reducible refine gate_callee (f := 12) rfl ?_); refine goesM_ (some 45) rfl rfl Try.func12 #[.int .i64 a0, .slice Ao24 t491.length co24, .slice Ao25 t494.length co25, .int .i64 a3] rfl ?_; (with_reducible refine (impl_MomentsOfNodes.calls k a0 _ _ t491 _ _ t494 a3 t497 t498 t501 _ ?side1 ?side2 ?side3 ?side4 A12.out).mono ?_); (case side1 => exact cs ((Kd.R_reads' HO493.out).2.2)); (case side2 => exact (Kd.R_reads' HO493.out).2.1); (case side3 => exact cs ((Kd.R_reads' HO496.out).2.2)); (case side4 => exact (Kd.R_reads' HO496.out).2.1); rintro e w26 ⟨v499, rfl, ho0, hb⟩; refine ⟨_, rfl, ?_⟩; have n0_ := as0 (Kd.R_elder' (rs HO481) (Kd.R_base ho0) hb); have n1_ := as0 (Kd.R_elder' (rs HO484) (Kd.R_base ho0) hb); have n2_ := as0 (Kd.R_elder' (rs HO488) (Kd.R_base ho0) hb); have n3_ := as0 (Kd.R_elder' (rs HO493) (Kd.R_base ho0) hb); have n4_ := as0 (Kd.R_elder' (rs HO496) (Kd.R_base ho0) hb); have n5_ := as0 (Kd.R_lower (Kd.R_new' (Kd.R_new' (Kd.R_new' (Kd.R_new' (Kd.R_new' ho0 (Kd.R_lt (rs HO481))) (Kd.R_lt (rs HO484))) (Kd.R_lt (rs HO488))) (Kd.R_lt (rs HO493))) (Kd.R_lt (rs HO496))) (below_size (by repeat (first | (with_reducible first | exact HB.out | apply below_alloc | apply pw_below_drewN | apply below_drew1 | refine below_set ?_ GE490.out) | exact HB.out)))); have n6_ := as0 (blk_below (g := gb490) (o := .cells #[.int .i64 t485, .slice Ao21 t486.length co21] 30 (0, 0)) (by (with_reducible repeat (first | refine blk_drewN ?_ _ | refine blk_drew ?_ | refine blk_alloc ?_ _)); exact BK490.out) hb); have n7_ := as0 (below_step (by repeat (first | (with_reducible first | exact HB.out | apply below_alloc | apply pw_below_drewN | apply below_drew1 | refine below_set ?_ GE490.out) | exact HB.out)) hb); clear HO481; clear HO484; clear HO488; clear HO493; clear HO496; clear BK490; clear HB; have HO481 := n0_; have HO484 := n1_; have HO488 := n2_; have HO493 := n3_; have HO496 := n4_; have HO500 := n5_; have BK490 := n6_; have HB := n7_; clear n0_ n1_ n2_ n3_ n4_ n5_ n6_ n7_; (try clear hb); (try clear hb2); (try clear hk); (try clear hi); (try clear ho0)) | ((with_reducible refine gate_dst (N := 13) rfl ?_); refine box_event ?hg (N := 13) ?hd (cs := #[.int .i64 0, .slice none 0 0]) (t := 30) ?hr ?_; (case hd => rfl); (case hg => rfl); (case hr => first | (go_simp; done) | (go_simp; rfl)); intro gb502 hg w27 hbox hb; have n0_ := as0 (Kd.R_below (rs HO481) hb); have n1_ := as0 (Kd.R_below (rs HO484) hb); have n2_ := as0 (Kd.R_below (rs HO488) hb); have n3_ := as0 (Kd.R_below (rs HO493) hb); have n4_ := as0 (Kd.R_below (rs HO496) hb); have n5_ := as0 (Kd.R_below (rs HO500) hb); have n6_ := as0 (blk_below (g := gb490) (o := .cells #[.int .i64 t485, .slice Ao21 t486.length co21] 30 (0, 0)) (by (with_reducible repeat (first | refine blk_drewN ?_ _ | refine blk_drew ?_ | refine blk_alloc ?_ _)); exact BK490.out) hb); have n7_ := as0 (below_step (by repeat (first | (with_reducible first | exact HB.out | apply below_alloc | apply pw_below_drewN | apply below_drew1 | refine below_set ?_ GE490.out) | exact HB.out)) hb); have n8_ := as0 (hbox); have n9_ := as0 ((by rw [hg]; exact (below_size (by repeat (first | (with_reducible first | exact HB.out | apply below_alloc | apply pw_below_drewN | apply below_drew1 | refine below_set ?_ GE490.out) | exact HB.out))) : w.heap.size ≤ gb502)); have n10_ := as0 ((by rw [hg]; exact (below_size (by repeat (first | (with_reducible first | exact HB.out | apply below_alloc | apply pw_below_drewN | apply below_drew1 | refine below_set ?_ GE490.out) | exact HB.out))) : w.heap.size ≤ gb502)); have n11_ := as0 ((by rw [hg]; exact Nat.ne_of_lt (blk_lt (g := gb490) (o := .cells #[.int .i64 t485, .slice Ao21 t486.length co21] 30 (0, 0)) (by (with_reducible repeat (first | refine blk_drewN ?_ _ | refine blk_drew ?_ | refine blk_alloc ?_ _)); exact BK490.out)) : gb490 ≠ gb502)); have n12_ := as0 ((by rw [hg]; exact Nat.ne_of_gt (blk_lt (g := gb490) (o := .cells #[.int .i64 t485, .slice Ao21 t486.length co21] 30 (0, 0)) (by (with_reducible repeat (first | refine blk_drewN ?_ _ | refine blk_drew ?_ | refine blk_alloc ?_ _)); exact BK490.out)) : gb502 ≠ gb490)); clear HO481; clear HO484; clear HO488; clear HO493; clear HO496; clear HO500; clear BK490; clear HB; have HO481 := n0_; have HO484 := n1_; have HO488 := n2_; have HO493 := n3_; have HO496 := n4_; have HO500 := n5_; have BK490 := n6_; have HB := n7_; have BK502 := n8_; have GW502 := n9_; have GE502 := n10_; have NB490_502 := n11_; have NB502_490 := n12_; clear n0_ n1_ n2_ n3_ n4_ n5_ n6_ n7_ n8_ n9_ n10_ n11_ n12_; clear hb hbox hg; have hnb28 := NB502_490.out; have hnc28 := NB490_502.out; have hcz29_0 : w27.cell? ⟨gb502, 0, none⟩ = some (.int .i64 0) := (blk_cell BK502.out 0).trans rfl; have hcz29_1 : w27.cell? ⟨gb502, 1, none⟩ = some (.slice none 0 0) := (blk_cell BK502.out 1).trans rfl; have hfz29_0 := blk_frozen BK502.out 0; have hfz29_1 := blk_frozen BK502.out 1; obtain ⟨Ao30, co30, eo30⟩ := Kd.R_slice HO500.out; subst eo30))
   (try simp only [Act.put, List.setIfInBounds_toArray, List.set_cons_zero, List.set_cons_succ])
   go_cut [56] (fun v56 wc => ∃ (kq : Nat) (x56_12 : Bool), v56 = .bool x56_12 ∧ Aside0 (laws_FnExactMomentsOfNodes.j0 kq a0 l1 l2 a3 t489 t491 t494 t501 x56_12 t485 t486 t497 t498 = some r) ∧ Aside0 (kq ≤ k) ∧ Aside0 (Kd.R (Kd.int .i64) 2 wc w.heap.size (fun k_ => some k_ ≠ ((.slice Ao25 t494.length co25) : Value).ownBlock ∧ some k_ ≠ ((.slice Ao21 t486.length co21) : Value).ownBlock ∧ some k_ ≠ ((.slice Ao30 t498.length co30) : Value).ownBlock) (.slice Ao24 t491.length co24) t491) ∧ Aside0 (Kd.R (Kd.int .i64) 2 wc w.heap.size (fun k_ => some k_ ≠ ((.slice Ao24 t491.length co24) : Value).ownBlock ∧ some k_ ≠ ((.slice Ao21 t486.length co21) : Value).ownBlock ∧ some k_ ≠ ((.slice Ao30 t498.length co30) : Value).ownBlock) (.slice Ao25 t494.length co25) t494) ∧ Aside0 (Kd.R (Kd.int .i64) 2 wc w.heap.size (fun k_ => some k_ ≠ ((.slice Ao24 t491.length co24) : Value).ownBlock ∧ some k_ ≠ ((.slice Ao25 t494.length co25) : Value).ownBlock ∧ some k_ ≠ ((.slice Ao30 t498.length co30) : Value).ownBlock) (.slice Ao21 t486.length co21) t486) ∧ Aside0 (Kd.R (Kd.int .i64) 2 wc w.heap.size (fun k_ => some k_ ≠ ((.slice Ao24 t491.length co24) : Value).ownBlock ∧ some k_ ≠ ((.slice Ao25 t494.length co25) : Value).ownBlock ∧ some k_ ≠ ((.slice Ao21 t486.length co21) : Value).ownBlock) (.slice Ao30 t498.length co30) t498) ∧ Aside0 (wc.heap[gb490]? = some (.cells #[.int .i64 t485, (.slice Ao21 t486.length co21)] 30 (0, 0))) ∧ Aside0 (wc.heap[gb502]? = some (.cells #[.int .i64 t497, (.slice Ao30 t498.length co30)] 30 (0, 0))) ∧ Aside0 (Below w.heap.size w wc))
   case first =>
    have H := HC13.out
    clear HC13
    replace H := Option.bind_eq_some_iff.mp H
    obtain ⟨t503, A310, H⟩ := H
    have A31 := as0 A310
    clear A310
    by_cases c32 : t503 = true
    ·
     subst c32
     have H1 : (laws_FnExactMomentsOfNodes.j0 k a0 l1 l2 a3 t489 t491 t494 t501 (t501 != t489) t485 t486 t497 t498) = some r := by rw [if_pos rfl] at H; exact H
     clear H
     have H := H1
     clear H1
     have H' := as0 H
     clear H
     have hnb33 := NB502_490.out
     have hnc33 := NB490_502.out
     have hcz34_0 : w27.cell? ⟨gb502, 0, none⟩ = some (.int .i64 0) := (blk_cell BK502.out 0).trans rfl
     have hcz34_1 : w27.cell? ⟨gb502, 1, none⟩ = some (.slice none 0 0) := (blk_cell BK502.out 1).trans rfl
     have hfz34_0 := blk_frozen BK502.out 0
     have hfz34_1 := blk_frozen BK502.out 1
     have hcz35_0 : w27.cell? ⟨gb490, 0, none⟩ = some (.int .i64 t485) := (blk_cell BK490.out 0).trans rfl
     have hcz35_1 : w27.cell? ⟨gb490, 1, none⟩ = some (.slice Ao21 t486.length co21) := (blk_cell BK490.out 1).trans rfl
     have hfz35_0 := blk_frozen BK490.out 0
     have hfz35_1 := blk_frozen BK490.out 1
     go_wp2_with (first | ((with_reducible refine gate_callee (f := 13) rfl ?_); refine goesM_ (some 50) rfl rfl Try.func13 #[.agg #[.int .i64 t497, .slice Ao30 t498.length co30], .agg #[.int .i64 t485, .slice Ao21 t486.length co21]] rfl ?_; (with_reducible refine (laws_eqMoments.calls k t497 _ _ t498 t485 _ _ t486 true _ ?side1 ?side2 ?side3 ?side4 A31.out).mono ?_); (case side1 => refine (Kd.R_reads' (e := 2) (base := w.heap.size) (ok := fun k_ => (((((True ∧ some k_ ≠ (.slice Ao16 t479.length co16 : Value).ownBlock) ∧ some k_ ≠ (.slice Ao17 t482.length co17 : Value).ownBlock) ∧ some k_ ≠ (.slice Ao21 t486.length co21 : Value).ownBlock) ∧ some k_ ≠ (.slice Ao24 t491.length co24 : Value).ownBlock) ∧ some k_ ≠ (.slice Ao25 t494.length co25 : Value).ownBlock)) (n := t498.length) (c := co30) ?_).2.2; exact (by (with_reducible repeat (first | apply Kd.R_alloc | apply Kd.R_drewN | apply Kd.R_drew)); exact (Kd.R_mono (Kd.R_far (p := ⟨gb502, 1, none⟩) (Kd.R_far (p := ⟨gb502, 0, none⟩) (Kd.R_types HO500.out BK502.out (by decide)) (fun _ hk => hk.2) (.int .i64 t497)) (fun _ hk => hk.2) (.slice Ao30 t498.length co30)) (fun _ h_ => h_.1)))); (case side2 => exact (Kd.R_reads' HO500.out).2.1); (case side3 => refine (Kd.R_reads' (e := 2) (base := w.heap.size) (ok := fun k_ => (((((True ∧ some k_ ≠ (.slice Ao16 t479.length co16 : Value).ownBlock) ∧ some k_ ≠ (.slice Ao17 t482.length co17 : Value).ownBlock) ∧ some k_ ≠ (.slice Ao24 t491.length co24 : Value).ownBlock) ∧ some k_ ≠ (.slice Ao25 t494.length co25 : Value).ownBlock) ∧ some k_ ≠ (.slice Ao30 t498.length co30 : Value).ownBlock)) (n := t486.length) (c := co21) ?_).2.2; exact (by (with_reducible repeat (first | apply Kd.R_alloc | apply Kd.R_drewN | apply Kd.R_drew)); exact (Kd.R_mono (Kd.R_far (p := ⟨gb502, 1, none⟩) (Kd.R_far (p := ⟨gb502, 0, none⟩) (Kd.R_types HO488.out BK502.out (by decide)) (fun _ hk => hk.2) (.int .i64 t497)) (fun _ hk => hk.2) (.slice Ao30 t498.length co30)) (fun _ h_ => h_.1)))); (case side4 => exact (Kd.R_reads' HO488.out).2.1); rintro e w36 ⟨rfl, hb⟩; refine ⟨_, rfl, ?_⟩; have n0_ := as0 (Kd.R_below (by (with_reducible repeat (first | apply Kd.R_alloc | apply Kd.R_drewN | apply Kd.R_drew)); exact (Kd.R_mono (Kd.R_far (p := ⟨gb502, 1, none⟩) (Kd.R_far (p := ⟨gb502, 0, none⟩) (Kd.R_types HO481.out BK502.out (by decide)) (fun _ hk => hk.2) (.int .i64 t497)) (fun _ hk => hk.2) (.slice Ao30 t498.length co30)) (fun _ h_ => h_.1))) hb); have n1_ := as0 (Kd.R_below (by (with_reducible repeat (first | apply Kd.R_alloc | apply Kd.R_drewN | apply Kd.R_drew)); exact (Kd.R_mono (Kd.R_far (p := ⟨gb502, 1, none⟩) (Kd.R_far (p := ⟨gb502, 0, none⟩) (Kd.R_types HO484.out BK502.out (by decide)) (fun _ hk => hk.2) (.int .i64 t497)) (fun _ hk => hk.2) (.slice Ao30 t498.length co30)) (fun _ h_ => h_.1))) hb); have n2_ := as0 (Kd.R_below (by (with_reducible repeat (first | apply Kd.R_alloc | apply Kd.R_drewN | apply Kd.R_drew)); exact (Kd.R_mono (Kd.R_far (p := ⟨gb502, 1, none⟩) (Kd.R_far (p := ⟨gb502, 0, none⟩) (Kd.R_types HO488.out BK502.out (by decide)) (fun _ hk => hk.2) (.int .i64 t497)) (fun _ hk => hk.2) (.slice Ao30 t498.length co30)) (fun _ h_ => h_.1))) hb); have n3_ := as0 (Kd.R_below (by (with_reducible repeat (first | apply Kd.R_alloc | apply Kd.R_drewN | apply Kd.R_drew)); exact (Kd.R_mono (Kd.R_far (p := ⟨gb502, 1, none⟩) (Kd.R_far (p := ⟨gb502, 0, none⟩) (Kd.R_types HO493.out BK502.out (by decide)) (fun _ hk => hk.2) (.int .i64 t497)) (fun _ hk => hk.2) (.slice Ao30 t498.length co30)) (fun _ h_ => h_.1))) hb); have n4_ := as0 (Kd.R_below (by (with_reducible repeat (first | apply Kd.R_alloc | apply Kd.R_drewN | apply Kd.R_drew)); exact (Kd.R_mono (Kd.R_far (p := ⟨gb502, 1, none⟩) (Kd.R_far (p := ⟨gb502, 0, none⟩) (Kd.R_types HO496.out BK502.out (by decide)) (fun _ hk => hk.2) (.int .i64 t497)) (fun _ hk => hk.2) (.slice Ao30 t498.length co30)) (fun _ h_ => h_.1))) hb); have n5_ := as0 (Kd.R_below (by (with_reducible repeat (first | apply Kd.R_alloc | apply Kd.R_drewN | apply Kd.R_drew)); exact (Kd.R_mono (Kd.R_far (p := ⟨gb502, 1, none⟩) (Kd.R_far (p := ⟨gb502, 0, none⟩) (Kd.R_types HO500.out BK502.out (by decide)) (fun _ hk => hk.2) (.int .i64 t497)) (fun _ hk => hk.2) (.slice Ao30 t498.length co30)) (fun _ h_ => h_.1))) hb); have n6_ := as0 (blk_below (g := gb490) (o := .cells #[.int .i64 t485, .slice Ao21 t486.length co21] 30 (0, 0)) (by (with_reducible repeat (first | refine blk_drewN ?_ _ | refine blk_drew ?_ | refine blk_alloc ?_ _)); refine blk_far ?_ NB490_502.out _; (with_reducible repeat (first | refine blk_drewN ?_ _ | refine blk_drew ?_ | refine blk_alloc ?_ _)); refine blk_far ?_ NB490_502.out _; (with_reducible repeat (first | refine blk_drewN ?_ _ | refine blk_drew ?_ | refine blk_alloc ?_ _)); exact BK490.out) hb); have n7_ := as0 (blk_below (g := gb502) (o := .cells #[.int .i64 t497, .slice Ao30 t498.length co30] 30 (0, 0)) (by (with_reducible repeat (first | refine blk_drewN ?_ _ | refine blk_drew ?_ | refine blk_alloc ?_ _)); refine blk_put (cs := #[.int .i64 t497, .slice none 0 0]) ?_ 1 _ rfl; (with_reducible repeat (first | refine blk_drewN ?_ _ | refine blk_drew ?_ | refine blk_alloc ?_ _)); refine blk_put (cs := #[.int .i64 0, .slice none 0 0]) ?_ 0 _ rfl; (with_reducible repeat (first | refine blk_drewN ?_ _ | refine blk_drew ?_ | refine blk_alloc ?_ _)); exact BK502.out) hb); have n8_ := as0 (below_step (by repeat (first | (with_reducible first | exact HB.out | apply below_alloc | apply pw_below_drewN | apply below_drew1 | refine below_set ?_ GE490.out | refine below_set ?_ GE502.out) | exact HB.out)) hb); clear HO481; clear HO484; clear HO488; clear HO493; clear HO496; clear HO500; clear BK490; clear BK502; clear HB; have HO481 := n0_; have HO484 := n1_; have HO488 := n2_; have HO493 := n3_; have HO496 := n4_; have HO500 := n5_; have BK490 := n6_; have BK502 := n7_; have HB := n8_; clear n0_ n1_ n2_ n3_ n4_ n5_ n6_ n7_ n8_; (try clear hb); (try clear hb2); (try clear hk); (try clear hi)))
     go_meet
     case rel => exact ⟨_, ((t501 != t489)), ea_, H', ⟨by first | omega | exact Nat.le_refl _⟩, ⟨by (with_reducible repeat (first | apply Kd.R_alloc | apply Kd.R_drewN | apply Kd.R_drew)); exact Kd.R_mono HO493.out (fun _ hk => ⟨hk.1.2, ⟨hk.1.1.2, hk.2⟩⟩)⟩, ⟨by (with_reducible repeat (first | apply Kd.R_alloc | apply Kd.R_drewN | apply Kd.R_drew)); exact Kd.R_mono HO496.out (fun _ hk => ⟨hk.1.2, ⟨hk.1.1.2, hk.2⟩⟩)⟩, ⟨by (with_reducible repeat (first | apply Kd.R_alloc | apply Kd.R_drewN | apply Kd.R_drew)); exact Kd.R_mono HO488.out (fun _ hk => ⟨hk.1.1.2, ⟨hk.1.2, hk.2⟩⟩)⟩, ⟨by (with_reducible repeat (first | apply Kd.R_alloc | apply Kd.R_drewN | apply Kd.R_drew)); exact Kd.R_mono HO500.out (fun _ hk => ⟨hk.1.2, ⟨hk.2, hk.1.1.2⟩⟩)⟩, ⟨by (with_reducible repeat (first | refine blk_drewN ?_ _ | refine blk_drew ?_ | refine blk_alloc ?_ _)); exact BK490.out⟩, ⟨by (with_reducible repeat (first | refine blk_drewN ?_ _ | refine blk_drew ?_ | refine blk_alloc ?_ _)); exact BK502.out⟩, ⟨by repeat (first | (with_reducible first | exact HB.out | apply below_alloc | apply pw_below_drewN | apply below_drew1 | refine below_set ?_ GE490.out | refine below_set ?_ GE502.out) | exact HB.out)⟩⟩
    ·
     replace c32 := Bool.eq_false_iff.mpr c32
     subst c32
     have H1 : (laws_FnExactMomentsOfNodes.j0 k a0 l1 l2 a3 t489 t491 t494 t501 true t485 t486 t497 t498) = some r := by rw [if_neg (show ¬ (false = true) by decide)] at H; exact H
     clear H
     have H := H1
     clear H1
     have H' := as0 H
     clear H
     have hnb37 := NB502_490.out
     have hnc37 := NB490_502.out
     have hcz38_0 : w27.cell? ⟨gb502, 0, none⟩ = some (.int .i64 0) := (blk_cell BK502.out 0).trans rfl
     have hcz38_1 : w27.cell? ⟨gb502, 1, none⟩ = some (.slice none 0 0) := (blk_cell BK502.out 1).trans rfl
     have hfz38_0 := blk_frozen BK502.out 0
     have hfz38_1 := blk_frozen BK502.out 1
     have hcz39_0 : w27.cell? ⟨gb490, 0, none⟩ = some (.int .i64 t485) := (blk_cell BK490.out 0).trans rfl
     have hcz39_1 : w27.cell? ⟨gb490, 1, none⟩ = some (.slice Ao21 t486.length co21) := (blk_cell BK490.out 1).trans rfl
     have hfz39_0 := blk_frozen BK490.out 0
     have hfz39_1 := blk_frozen BK490.out 1
     go_wp2_with (first | ((with_reducible refine gate_callee (f := 13) rfl ?_); refine goesM_ (some 50) rfl rfl Try.func13 #[.agg #[.int .i64 t497, .slice Ao30 t498.length co30], .agg #[.int .i64 t485, .slice Ao21 t486.length co21]] rfl ?_; (with_reducible refine (laws_eqMoments.calls k t497 _ _ t498 t485 _ _ t486 false _ ?side1 ?side2 ?side3 ?side4 A31.out).mono ?_); (case side1 => refine (Kd.R_reads' (e := 2) (base := w.heap.size) (ok := fun k_ => (((((True ∧ some k_ ≠ (.slice Ao16 t479.length co16 : Value).ownBlock) ∧ some k_ ≠ (.slice Ao17 t482.length co17 : Value).ownBlock) ∧ some k_ ≠ (.slice Ao21 t486.length co21 : Value).ownBlock) ∧ some k_ ≠ (.slice Ao24 t491.length co24 : Value).ownBlock) ∧ some k_ ≠ (.slice Ao25 t494.length co25 : Value).ownBlock)) (n := t498.length) (c := co30) ?_).2.2; exact (by (with_reducible repeat (first | apply Kd.R_alloc | apply Kd.R_drewN | apply Kd.R_drew)); exact (Kd.R_mono (Kd.R_far (p := ⟨gb502, 1, none⟩) (Kd.R_far (p := ⟨gb502, 0, none⟩) (Kd.R_types HO500.out BK502.out (by decide)) (fun _ hk => hk.2) (.int .i64 t497)) (fun _ hk => hk.2) (.slice Ao30 t498.length co30)) (fun _ h_ => h_.1)))); (case side2 => exact (Kd.R_reads' HO500.out).2.1); (case side3 => refine (Kd.R_reads' (e := 2) (base := w.heap.size) (ok := fun k_ => (((((True ∧ some k_ ≠ (.slice Ao16 t479.length co16 : Value).ownBlock) ∧ some k_ ≠ (.slice Ao17 t482.length co17 : Value).ownBlock) ∧ some k_ ≠ (.slice Ao24 t491.length co24 : Value).ownBlock) ∧ some k_ ≠ (.slice Ao25 t494.length co25 : Value).ownBlock) ∧ some k_ ≠ (.slice Ao30 t498.length co30 : Value).ownBlock)) (n := t486.length) (c := co21) ?_).2.2; exact (by (with_reducible repeat (first | apply Kd.R_alloc | apply Kd.R_drewN | apply Kd.R_drew)); exact (Kd.R_mono (Kd.R_far (p := ⟨gb502, 1, none⟩) (Kd.R_far (p := ⟨gb502, 0, none⟩) (Kd.R_types HO488.out BK502.out (by decide)) (fun _ hk => hk.2) (.int .i64 t497)) (fun _ hk => hk.2) (.slice Ao30 t498.length co30)) (fun _ h_ => h_.1)))); (case side4 => exact (Kd.R_reads' HO488.out).2.1); rintro e w40 ⟨rfl, hb⟩; refine ⟨_, rfl, ?_⟩; have n0_ := as0 (Kd.R_below (by (with_reducible repeat (first | apply Kd.R_alloc | apply Kd.R_drewN | apply Kd.R_drew)); exact (Kd.R_mono (Kd.R_far (p := ⟨gb502, 1, none⟩) (Kd.R_far (p := ⟨gb502, 0, none⟩) (Kd.R_types HO481.out BK502.out (by decide)) (fun _ hk => hk.2) (.int .i64 t497)) (fun _ hk => hk.2) (.slice Ao30 t498.length co30)) (fun _ h_ => h_.1))) hb); have n1_ := as0 (Kd.R_below (by (with_reducible repeat (first | apply Kd.R_alloc | apply Kd.R_drewN | apply Kd.R_drew)); exact (Kd.R_mono (Kd.R_far (p := ⟨gb502, 1, none⟩) (Kd.R_far (p := ⟨gb502, 0, none⟩) (Kd.R_types HO484.out BK502.out (by decide)) (fun _ hk => hk.2) (.int .i64 t497)) (fun _ hk => hk.2) (.slice Ao30 t498.length co30)) (fun _ h_ => h_.1))) hb); have n2_ := as0 (Kd.R_below (by (with_reducible repeat (first | apply Kd.R_alloc | apply Kd.R_drewN | apply Kd.R_drew)); exact (Kd.R_mono (Kd.R_far (p := ⟨gb502, 1, none⟩) (Kd.R_far (p := ⟨gb502, 0, none⟩) (Kd.R_types HO488.out BK502.out (by decide)) (fun _ hk => hk.2) (.int .i64 t497)) (fun _ hk => hk.2) (.slice Ao30 t498.length co30)) (fun _ h_ => h_.1))) hb); have n3_ := as0 (Kd.R_below (by (with_reducible repeat (first | apply Kd.R_alloc | apply Kd.R_drewN | apply Kd.R_drew)); exact (Kd.R_mono (Kd.R_far (p := ⟨gb502, 1, none⟩) (Kd.R_far (p := ⟨gb502, 0, none⟩) (Kd.R_types HO493.out BK502.out (by decide)) (fun _ hk => hk.2) (.int .i64 t497)) (fun _ hk => hk.2) (.slice Ao30 t498.length co30)) (fun _ h_ => h_.1))) hb); have n4_ := as0 (Kd.R_below (by (with_reducible repeat (first | apply Kd.R_alloc | apply Kd.R_drewN | apply Kd.R_drew)); exact (Kd.R_mono (Kd.R_far (p := ⟨gb502, 1, none⟩) (Kd.R_far (p := ⟨gb502, 0, none⟩) (Kd.R_types HO496.out BK502.out (by decide)) (fun _ hk => hk.2) (.int .i64 t497)) (fun _ hk => hk.2) (.slice Ao30 t498.length co30)) (fun _ h_ => h_.1))) hb); have n5_ := as0 (Kd.R_below (by (with_reducible repeat (first | apply Kd.R_alloc | apply Kd.R_drewN | apply Kd.R_drew)); exact (Kd.R_mono (Kd.R_far (p := ⟨gb502, 1, none⟩) (Kd.R_far (p := ⟨gb502, 0, none⟩) (Kd.R_types HO500.out BK502.out (by decide)) (fun _ hk => hk.2) (.int .i64 t497)) (fun _ hk => hk.2) (.slice Ao30 t498.length co30)) (fun _ h_ => h_.1))) hb); have n6_ := as0 (blk_below (g := gb490) (o := .cells #[.int .i64 t485, .slice Ao21 t486.length co21] 30 (0, 0)) (by (with_reducible repeat (first | refine blk_drewN ?_ _ | refine blk_drew ?_ | refine blk_alloc ?_ _)); refine blk_far ?_ NB490_502.out _; (with_reducible repeat (first | refine blk_drewN ?_ _ | refine blk_drew ?_ | refine blk_alloc ?_ _)); refine blk_far ?_ NB490_502.out _; (with_reducible repeat (first | refine blk_drewN ?_ _ | refine blk_drew ?_ | refine blk_alloc ?_ _)); exact BK490.out) hb); have n7_ := as0 (blk_below (g := gb502) (o := .cells #[.int .i64 t497, .slice Ao30 t498.length co30] 30 (0, 0)) (by (with_reducible repeat (first | refine blk_drewN ?_ _ | refine blk_drew ?_ | refine blk_alloc ?_ _)); refine blk_put (cs := #[.int .i64 t497, .slice none 0 0]) ?_ 1 _ rfl; (with_reducible repeat (first | refine blk_drewN ?_ _ | refine blk_drew ?_ | refine blk_alloc ?_ _)); refine blk_put (cs := #[.int .i64 0, .slice none 0 0]) ?_ 0 _ rfl; (with_reducible repeat (first | refine blk_drewN ?_ _ | refine blk_drew ?_ | refine blk_alloc ?_ _)); exact BK502.out) hb); have n8_ := as0 (below_step (by repeat (first | (with_reducible first | exact HB.out | apply below_alloc | apply pw_below_drewN | apply below_drew1 | refine below_set ?_ GE490.out | refine below_set ?_ GE502.out) | exact HB.out)) hb); clear HO481; clear HO484; clear HO488; clear HO493; clear HO496; clear HO500; clear BK490; clear BK502; clear HB; have HO481 := n0_; have HO484 := n1_; have HO488 := n2_; have HO493 := n3_; have HO496 := n4_; have HO500 := n5_; have BK490 := n6_; have BK502 := n7_; have HB := n8_; clear n0_ n1_ n2_ n3_ n4_ n5_ n6_ n7_ n8_; (try clear hb); (try clear hb2); (try clear hk); (try clear hi)))
     go_meet
     case rel => exact ⟨_, (true), ea_, H', ⟨by first | omega | exact Nat.le_refl _⟩, ⟨by (with_reducible repeat (first | apply Kd.R_alloc | apply Kd.R_drewN | apply Kd.R_drew)); exact Kd.R_mono HO493.out (fun _ hk => ⟨hk.1.2, ⟨hk.1.1.2, hk.2⟩⟩)⟩, ⟨by (with_reducible repeat (first | apply Kd.R_alloc | apply Kd.R_drewN | apply Kd.R_drew)); exact Kd.R_mono HO496.out (fun _ hk => ⟨hk.1.2, ⟨hk.1.1.2, hk.2⟩⟩)⟩, ⟨by (with_reducible repeat (first | apply Kd.R_alloc | apply Kd.R_drewN | apply Kd.R_drew)); exact Kd.R_mono HO488.out (fun _ hk => ⟨hk.1.1.2, ⟨hk.1.2, hk.2⟩⟩)⟩, ⟨by (with_reducible repeat (first | apply Kd.R_alloc | apply Kd.R_drewN | apply Kd.R_drew)); exact Kd.R_mono HO500.out (fun _ hk => ⟨hk.1.2, ⟨hk.2, hk.1.1.2⟩⟩)⟩, ⟨by (with_reducible repeat (first | refine blk_drewN ?_ _ | refine blk_drew ?_ | refine blk_alloc ?_ _)); exact BK490.out⟩, ⟨by (with_reducible repeat (first | refine blk_drewN ?_ _ | refine blk_drew ?_ | refine blk_alloc ?_ _)); exact BK502.out⟩, ⟨by repeat (first | (with_reducible first | exact HB.out | apply below_alloc | apply pw_below_drewN | apply below_drew1 | refine below_set ?_ GE490.out | refine below_set ?_ GE502.out) | exact HB.out)⟩⟩
   case rest =>
    clear HC13
    try clear c1
    try clear c2
    try clear p2
    try clear c3
    try clear c4
    try clear c5
    try clear c5b0
    try clear c5b1
    try clear c6
    try clear c6b0
    try clear c6b1
    try clear c11
    try clear c12
    try clear c13
    try clear c28
    try clear c32
    try clear c33
    try clear c37
    try clear hcz20_0
    try clear hcz20_1
    try clear hcz29_0
    try clear hcz29_1
    try clear hcz34_0
    try clear hcz34_1
    try clear hcz35_0
    try clear hcz35_1
    try clear hcz38_0
    try clear hcz38_1
    try clear hcz39_0
    try clear hcz39_1
    try clear hfz20_0
    try clear hfz20_1
    try clear hfz29_0
    try clear hfz29_1
    try clear hfz34_0
    try clear hfz34_1
    try clear hfz35_0
    try clear hfz35_1
    try clear hfz38_0
    try clear hfz38_1
    try clear hfz39_0
    try clear hfz39_1
    obtain ⟨kq, x56_12, rfl, HA, HJ12, HO_11, HO_12, HO_491001, HO_503001, BK490, BK502, HB⟩ := hcut
    cases kq with
    | zero => exact absurd HA.out (by simp [laws_FnExactMomentsOfNodes.j0])
    | succ kj12 =>
     have H := HA.out
     clear HA
     simp only [laws_FnExactMomentsOfNodes.j0] at H
     by_cases c41 : x56_12 = true
     ·
      subst c41
      have H1 : (some false) = some r := by rw [if_pos rfl] at H; exact H
      clear H
      have H := H1
      clear H1
      obtain rfl := Option.some.inj H
      go_wp2
      go_ret
      exact ⟨er_, by repeat (first | (with_reducible first | exact HB.out | apply below_alloc | apply pw_below_drewN | apply below_drew1 | refine below_set ?_ GE490.out | refine below_set ?_ GE502.out) | exact HB.out)⟩
     ·
      replace c41 := Bool.eq_false_iff.mpr c41
      subst c41
      have H1 : ((laws_toInt64S.f kj12 l1).bind fun t504 => ((laws_eqInt64S.f kj12 t491 t504).bind fun t507 => (if t507 = true then ((laws_toInt64S.f kj12 l2).bind fun t508 => ((laws_eqInt64S.f kj12 t494 t508).bind fun t511 => (if t511 = true then ((laws_markInt64S.f kj12 t491 1).bind fun bt512 => ((laws_markInt64S.f kj12 t494 bt512.1).bind fun bt514 => (if bt514.1 < 0 then (laws_FnExactMomentsOfNodes.j1 kj12 a0 l1 l2 a3 t489 true t485 t486 t497 t498) else ((laws_eqMoments.f kj12 t497 t498 t485 t486).bind fun t516 => (if t516 = true then (laws_FnExactMomentsOfNodes.j1 kj12 a0 l1 l2 a3 t489 (t501 != t489) t485 t486 t497 t498) else (laws_FnExactMomentsOfNodes.j1 kj12 a0 l1 l2 a3 t489 true t485 t486 t497 t498)))))) else (some false)))) else (some false)))) = some r := by rw [if_neg (show ¬ (false = true) by decide)] at H; exact H
      clear H
      have H := H1
      clear H1
      replace H := Option.bind_eq_some_iff.mp H
      obtain ⟨t504, A420, H⟩ := H
      have A42 := as0 A420
      clear A420
      replace H := Option.bind_eq_some_iff.mp H
      obtain ⟨t507, A430, H⟩ := H
      have A43 := as0 A430
      clear A430
      by_cases c44 : t507 = true
      ·
       subst c44
       have H1 : ((laws_toInt64S.f kj12 l2).bind fun t508 => ((laws_eqInt64S.f kj12 t494 t508).bind fun t511 => (if t511 = true then ((laws_markInt64S.f kj12 t491 1).bind fun bt512 => ((laws_markInt64S.f kj12 t494 bt512.1).bind fun bt514 => (if bt514.1 < 0 then (laws_FnExactMomentsOfNodes.j1 kj12 a0 l1 l2 a3 t489 true t485 t486 t497 t498) else ((laws_eqMoments.f kj12 t497 t498 t485 t486).bind fun t516 => (if t516 = true then (laws_FnExactMomentsOfNodes.j1 kj12 a0 l1 l2 a3 t489 (t501 != t489) t485 t486 t497 t498) else (laws_FnExactMomentsOfNodes.j1 kj12 a0 l1 l2 a3 t489 true t485 t486 t497 t498)))))) else (some false)))) = some r := by rw [if_pos rfl] at H; exact H
       clear H
       have H := H1
       clear H1
       replace H := Option.bind_eq_some_iff.mp H
       obtain ⟨t508, A450, H⟩ := H
       have A45 := as0 A450
       clear A450
       replace H := Option.bind_eq_some_iff.mp H
       obtain ⟨t511, A460, H⟩ := H
       have A46 := as0 A460
       clear A460
       by_cases c47 : t511 = true
       ·
        subst c47
        have H1 : ((laws_markInt64S.f kj12 t491 1).bind fun bt512 => ((laws_markInt64S.f kj12 t494 bt512.1).bind fun bt514 => (if bt514.1 < 0 then (laws_FnExactMomentsOfNodes.j1 kj12 a0 l1 l2 a3 t489 true t485 t486 t497 t498) else ((laws_eqMoments.f kj12 t497 t498 t485 t486).bind fun t516 => (if t516 = true then (laws_FnExactMomentsOfNodes.j1 kj12 a0 l1 l2 a3 t489 (t501 != t489) t485 t486 t497 t498) else (laws_FnExactMomentsOfNodes.j1 kj12 a0 l1 l2 a3 t489 true t485 t486 t497 t498)))))) = some r := by rw [if_pos rfl] at H; exact H
        clear H
        have H := H1
        clear H1
        replace H := Option.bind_eq_some_iff.mp H
        obtain ⟨⟨t512, t513⟩, A480, H⟩ := H
        have A48 := as0 A480
        clear A480
        replace H := Option.bind_eq_some_iff.mp H
        obtain ⟨⟨t514, t515⟩, A490, H⟩ := H
        have A49 := as0 A490
        clear A490
        have HC50 := as0 H
        clear H
        go_upto_region 18 with (first | ((with_reducible refine gate_callee (f := 6) rfl ?_); refine goesM_ (some 59) rfl rfl Try.func6 #[.slice A1 l1.length c1] rfl ?_; (with_reducible refine (laws_toInt64S.calls kj12 _ _ l1 t504 _ ?side1 ?side2 A42.out).mono ?_); (case side1 => exact cs ((Kd.C_below HR1.out HB.out))); (case side2 => exact HC1.out); rintro e w51 ⟨v505, rfl, ho0, hb⟩; refine ⟨_, rfl, ?_⟩; have n0_ := as0 (Kd.R_elder' (rs HO_11) (Kd.R_base ho0) hb); have n1_ := as0 (Kd.R_elder' (rs HO_12) (Kd.R_base ho0) hb); have n2_ := as0 (Kd.R_elder' (rs HO_491001) (Kd.R_base ho0) hb); have n3_ := as0 (Kd.R_elder' (rs HO_503001) (Kd.R_base ho0) hb); have n4_ := as0 (Kd.R_lower (Kd.R_new' (Kd.R_new' (Kd.R_new' (Kd.R_new' ho0 (Kd.R_lt (rs HO_11))) (Kd.R_lt (rs HO_12))) (Kd.R_lt (rs HO_491001))) (Kd.R_lt (rs HO_503001))) (below_size (by repeat (first | (with_reducible first | exact HB.out | apply below_alloc | apply pw_below_drewN | apply below_drew1 | refine below_set ?_ GE490.out | refine below_set ?_ GE502.out) | exact HB.out)))); have n5_ := as0 (blk_below (g := gb490) (o := .cells #[.int .i64 t485, .slice Ao21 t486.length co21] 30 (0, 0)) (by (with_reducible repeat (first | refine blk_drewN ?_ _ | refine blk_drew ?_ | refine blk_alloc ?_ _)); exact BK490.out) hb); have n6_ := as0 (blk_below (g := gb502) (o := .cells #[.int .i64 t497, .slice Ao30 t498.length co30] 30 (0, 0)) (by (with_reducible repeat (first | refine blk_drewN ?_ _ | refine blk_drew ?_ | refine blk_alloc ?_ _)); exact BK502.out) hb); have n7_ := as0 (below_step (by repeat (first | (with_reducible first | exact HB.out | apply below_alloc | apply pw_below_drewN | apply below_drew1 | refine below_set ?_ GE490.out | refine below_set ?_ GE502.out) | exact HB.out)) hb); clear HO_11; clear HO_12; clear HO_491001; clear HO_503001; clear BK490; clear BK502; clear HB; have HO_11 := n0_; have HO_12 := n1_; have HO_491001 := n2_; have HO_503001 := n3_; have HO506 := n4_; have BK490 := n5_; have BK502 := n6_; have HB := n7_; clear n0_ n1_ n2_ n3_ n4_ n5_ n6_ n7_; (try clear hb); (try clear hb2); (try clear hk); (try clear hi); (try clear ho0); obtain ⟨Ao52, co52, eo52⟩ := Kd.R_slice HO506.out; subst eo52) | ((with_reducible refine gate_callee (f := 8) rfl ?_); refine goesM_ (some 60) rfl rfl Try.func8 #[.slice Ao24 t491.length co24, .slice Ao52 t504.length co52] rfl ?_; (with_reducible refine (laws_eqInt64S.calls kj12 _ _ t491 _ _ t504 true _ ?side1 ?side2 ?side3 ?side4 A43.out).mono ?_); (case side1 => exact cs ((Kd.R_reads' HO_11.out).2.2)); (case side2 => exact (Kd.R_reads' HO_11.out).2.1); (case side3 => exact cs ((Kd.R_reads' HO506.out).2.2)); (case side4 => exact (Kd.R_reads' HO506.out).2.1); rintro e w' ⟨rfl, ⟨nd, rfl⟩⟩; refine ⟨_, rfl, ?_⟩) | ((with_reducible refine gate_callee (f := 6) rfl ?_); refine goesM_ (some 64) rfl rfl Try.func6 #[.slice A2 l2.length c2] rfl ?_; (with_reducible refine (laws_toInt64S.calls kj12 _ _ l2 t508 _ ?side1 ?side2 A45.out).mono ?_); (case side1 => repeat (first | exact (Kd.C_below HR2.out (by repeat (first | (with_reducible first | exact HB.out | apply below_alloc | apply pw_below_drewN | apply below_drew1 | refine below_set ?_ GE490.out | refine below_set ?_ GE502.out) | exact HB.out))) | (with_reducible refine Kd.C_alloc ?_ _) | (with_reducible refine Kd.C_drewN ?_ _) | (with_reducible refine Kd.C_drew ?_))); (case side2 => exact HC2.out); rintro e w53 ⟨v509, rfl, ho0, hb⟩; refine ⟨_, rfl, ?_⟩; have n0_ := as0 (Kd.R_elder' (rs HO_11) (Kd.R_base ho0) hb); have n1_ := as0 (Kd.R_elder' (rs HO_12) (Kd.R_base ho0) hb); have n2_ := as0 (Kd.R_elder' (rs HO_491001) (Kd.R_base ho0) hb); have n3_ := as0 (Kd.R_elder' (rs HO_503001) (Kd.R_base ho0) hb); have n4_ := as0 (Kd.R_elder' (rs HO506) (Kd.R_base ho0) hb); have n5_ := as0 (Kd.R_lower (Kd.R_new' (Kd.R_new' (Kd.R_new' (Kd.R_new' (Kd.R_new' ho0 (Kd.R_lt (rs HO_11))) (Kd.R_lt (rs HO_12))) (Kd.R_lt (rs HO_491001))) (Kd.R_lt (rs HO_503001))) (Kd.R_lt (rs HO506))) (below_size (by repeat (first | (with_reducible first | exact HB.out | apply below_alloc | apply pw_below_drewN | apply below_drew1 | refine below_set ?_ GE490.out | refine below_set ?_ GE502.out) | exact HB.out)))); have n6_ := as0 (blk_below (g := gb490) (o := .cells #[.int .i64 t485, .slice Ao21 t486.length co21] 30 (0, 0)) (by (with_reducible repeat (first | refine blk_drewN ?_ _ | refine blk_drew ?_ | refine blk_alloc ?_ _)); exact BK490.out) hb); have n7_ := as0 (blk_below (g := gb502) (o := .cells #[.int .i64 t497, .slice Ao30 t498.length co30] 30 (0, 0)) (by (with_reducible repeat (first | refine blk_drewN ?_ _ | refine blk_drew ?_ | refine blk_alloc ?_ _)); exact BK502.out) hb); have n8_ := as0 (below_step (by repeat (first | (with_reducible first | exact HB.out | apply below_alloc | apply pw_below_drewN | apply below_drew1 | refine below_set ?_ GE490.out | refine below_set ?_ GE502.out) | exact HB.out)) hb); clear HO_11; clear HO_12; clear HO_491001; clear HO_503001; clear HO506; clear BK490; clear BK502; clear HB; have HO_11 := n0_; have HO_12 := n1_; have HO_491001 := n2_; have HO_503001 := n3_; have HO506 := n4_; have HO510 := n5_; have BK490 := n6_; have BK502 := n7_; have HB := n8_; clear n0_ n1_ n2_ n3_ n4_ n5_ n6_ n7_ n8_; (try clear hb); (try clear hb2); (try clear hk); (try clear hi); (try clear ho0); obtain ⟨Ao54, co54, eo54⟩ := Kd.R_slice HO510.out; subst eo54) | ((with_reducible refine gate_callee (f := 8) rfl ?_); refine goesM_ (some 65) rfl rfl Try.func8 #[.slice Ao25 t494.length co25, .slice Ao54 t508.length co54] rfl ?_; (with_reducible refine (laws_eqInt64S.calls kj12 _ _ t494 _ _ t508 true _ ?side1 ?side2 ?side3 ?side4 A46.out).mono ?_); (case side1 => exact cs ((Kd.R_reads' HO_12.out).2.2)); (case side2 => exact (Kd.R_reads' HO_12.out).2.1); (case side3 => exact cs ((Kd.R_reads' HO510.out).2.2)); (case side4 => exact (Kd.R_reads' HO510.out).2.1); rintro e w' ⟨rfl, ⟨nd, rfl⟩⟩; refine ⟨_, rfl, ?_⟩) | ((with_reducible refine gate_callee (f := 9) rfl ?_); refine goesM_ (some 69) rfl rfl Try.func9 #[.slice Ao24 t491.length co24, .int .i64 1] rfl ?_; (with_reducible refine (laws_markInt64S.calls kj12 (fun k_ => some k_ = (.slice Ao24 t491.length co24 : Value).ownBlock) (.slice Ao24 t491.length co24) t491 1 t512 t513 w _ ?side1 ?side2 A48.out).mono ?_); (case side1 => repeat (first | (with_reducible first | exact HB.out | apply below_alloc | apply pw_below_drewN | apply below_drew1 | refine below_set ?_ GE490.out | refine below_set ?_ GE502.out) | exact HB.out)); (case side2 => exact Kd.R_tight rfl HO_11.out); rintro e w55 ⟨rfl, hy0, hb, hkp⟩; refine ⟨_, rfl, ?_⟩; have n0_ := as0 (Kd.R_reok rfl hy0 (fun k_ e_ => HO_11.out.1 k_ e_)); have n1_ := as0 (Kd.R_mono (ok' := fun k_ => some k_ ≠ (.slice Ao24 t491.length co24 : Value).ownBlock ∧ some k_ ≠ (.slice Ao21 t486.length co21 : Value).ownBlock ∧ some k_ ≠ (.slice Ao30 t498.length co30 : Value).ownBlock ∧ some k_ ≠ (.slice Ao52 t504.length co52 : Value).ownBlock ∧ some k_ ≠ (.slice Ao54 t508.length co54 : Value).ownBlock) (Kd.R_keptB (HO_12.out) hkp (fun k_ hk_ hs_ => (hk_.1.1.1) hs_)) (fun k_ hk_ => ⟨hk_.1.1.1.1, hk_.1.1.1.2.1, hk_.1.1.1.2.2, hk_.1.1.2, hk_.1.2⟩)); have n2_ := as0 (Kd.R_mono (ok' := fun k_ => some k_ ≠ (.slice Ao24 t491.length co24 : Value).ownBlock ∧ some k_ ≠ (.slice Ao25 t494.length co25 : Value).ownBlock ∧ some k_ ≠ (.slice Ao30 t498.length co30 : Value).ownBlock ∧ some k_ ≠ (.slice Ao52 t504.length co52 : Value).ownBlock ∧ some k_ ≠ (.slice Ao54 t508.length co54 : Value).ownBlock) (Kd.R_keptB (HO_491001.out) hkp (fun k_ hk_ hs_ => (hk_.1.1.1) hs_)) (fun k_ hk_ => ⟨hk_.1.1.1.1, hk_.1.1.1.2.1, hk_.1.1.1.2.2, hk_.1.1.2, hk_.1.2⟩)); have n3_ := as0 (Kd.R_mono (ok' := fun k_ => some k_ ≠ (.slice Ao24 t491.length co24 : Value).ownBlock ∧ some k_ ≠ (.slice Ao25 t494.length co25 : Value).ownBlock ∧ some k_ ≠ (.slice Ao21 t486.length co21 : Value).ownBlock ∧ some k_ ≠ (.slice Ao52 t504.length co52 : Value).ownBlock ∧ some k_ ≠ (.slice Ao54 t508.length co54 : Value).ownBlock) (Kd.R_keptB (HO_503001.out) hkp (fun k_ hk_ hs_ => (hk_.1.1.1) hs_)) (fun k_ hk_ => ⟨hk_.1.1.1.1, hk_.1.1.1.2.1, hk_.1.1.1.2.2, hk_.1.1.2, hk_.1.2⟩)); have n4_ := as0 (blk_kept (by (with_reducible repeat (first | refine blk_drewN ?_ _ | refine blk_drew ?_ | refine blk_alloc ?_ _)); exact BK490.out) hkp (fun hs_ => (fun e_ => (Kd.R_ne HO_11.out BK490.out (by decide)) e_) hs_)); have n5_ := as0 (blk_kept (by (with_reducible repeat (first | refine blk_drewN ?_ _ | refine blk_drew ?_ | refine blk_alloc ?_ _)); exact BK502.out) hkp (fun hs_ => (fun e_ => (Kd.R_ne HO_11.out BK502.out (by decide)) e_) hs_)); have n6_ := as0 (Kd.R_mono (ok' := fun k_ => some k_ ≠ (.slice Ao24 t491.length co24 : Value).ownBlock ∧ some k_ ≠ (.slice Ao25 t494.length co25 : Value).ownBlock ∧ some k_ ≠ (.slice Ao21 t486.length co21 : Value).ownBlock ∧ some k_ ≠ (.slice Ao30 t498.length co30 : Value).ownBlock ∧ some k_ ≠ (.slice Ao54 t508.length co54 : Value).ownBlock) (Kd.R_keptB (HO506.out) hkp (fun k_ hk_ hs_ => (hk_.1.1.1.1.2) hs_)) (fun k_ hk_ => ⟨hk_.1.1.1.1.1.2, hk_.1.1.1.1.2, hk_.1.1.1.2, hk_.1.1.2, hk_.1.2⟩)); have n7_ := as0 (Kd.R_mono (ok' := fun k_ => some k_ ≠ (.slice Ao24 t491.length co24 : Value).ownBlock ∧ some k_ ≠ (.slice Ao25 t494.length co25 : Value).ownBlock ∧ some k_ ≠ (.slice Ao21 t486.length co21 : Value).ownBlock ∧ some k_ ≠ (.slice Ao30 t498.length co30 : Value).ownBlock ∧ some k_ ≠ (.slice Ao52 t504.length co52 : Value).ownBlock) (Kd.R_keptB (HO510.out) hkp (fun k_ hk_ hs_ => (hk_.1.1.1.1.2) hs_)) (fun k_ hk_ => ⟨hk_.1.1.1.1.1.2, hk_.1.1.1.1.2, hk_.1.1.1.2, hk_.1.1.2, hk_.1.2⟩)); have n8_ := as0 (hb); clear HO_11; clear HO_12; clear HO_491001; clear HO_503001; clear BK490; clear BK502; clear HO506; clear HO510; clear HB; have HO_11 := n0_; have HO_12 := n1_; have HO_491001 := n2_; have HO_503001 := n3_; have BK490 := n4_; have BK502 := n5_; have HO506 := n6_; have HO510 := n7_; have HB := n8_; clear n0_ n1_ n2_ n3_ n4_ n5_ n6_ n7_ n8_; (try clear hb); (try clear hkp); (try clear hy0)) | ((with_reducible refine gate_callee (f := 9) rfl ?_); refine goesM_ (some 72) rfl rfl Try.func9 #[.slice Ao25 t494.length co25, .int .i64 t512] rfl ?_; (with_reducible refine (laws_markInt64S.calls kj12 (fun k_ => some k_ = (.slice Ao25 t494.length co25 : Value).ownBlock) (.slice Ao25 t494.length co25) t494 t512 t514 t515 w _ ?side1 ?side2 A49.out).mono ?_); (case side1 => repeat (first | (with_reducible first | exact HB.out | apply below_alloc | apply pw_below_drewN | apply below_drew1 | refine below_set ?_ GE490.out | refine below_set ?_ GE502.out) | exact HB.out)); (case side2 => exact Kd.R_tight rfl HO_12.out); rintro e w56 ⟨rfl, hy0, hb, hkp⟩; refine ⟨_, rfl, ?_⟩; have n0_ := as0 (Kd.R_mono (ok' := fun k_ => some k_ ≠ (.slice Ao25 t494.length co25 : Value).ownBlock ∧ some k_ ≠ (.slice Ao21 t486.length co21 : Value).ownBlock ∧ some k_ ≠ (.slice Ao30 t498.length co30 : Value).ownBlock ∧ some k_ ≠ (.slice Ao52 t504.length co52 : Value).ownBlock ∧ some k_ ≠ (.slice Ao54 t508.length co54 : Value).ownBlock) (Kd.R_keptB (HO_11.out) hkp (fun k_ hk_ hs_ => (hk_.1.1.1) hs_)) (fun k_ hk_ => ⟨hk_.1.1.1.1, hk_.1.1.1.2.1, hk_.1.1.1.2.2, hk_.1.1.2, hk_.1.2⟩)); have n1_ := as0 (Kd.R_reok rfl hy0 (fun k_ e_ => HO_12.out.1 k_ e_)); have n2_ := as0 (Kd.R_mono (ok' := fun k_ => some k_ ≠ (.slice Ao24 t491.length co24 : Value).ownBlock ∧ some k_ ≠ (.slice Ao25 t494.length co25 : Value).ownBlock ∧ some k_ ≠ (.slice Ao30 t498.length co30 : Value).ownBlock ∧ some k_ ≠ (.slice Ao52 t504.length co52 : Value).ownBlock ∧ some k_ ≠ (.slice Ao54 t508.length co54 : Value).ownBlock) (Kd.R_keptB (HO_491001.out) hkp (fun k_ hk_ hs_ => (hk_.2.1) hs_)) (fun k_ hk_ => ⟨hk_.1.1, hk_.1.2.1, hk_.1.2.2.1, hk_.1.2.2.2.1, hk_.1.2.2.2.2⟩)); have n3_ := as0 (Kd.R_mono (ok' := fun k_ => some k_ ≠ (.slice Ao24 t491.length co24 : Value).ownBlock ∧ some k_ ≠ (.slice Ao25 t494.length co25 : Value).ownBlock ∧ some k_ ≠ (.slice Ao21 t486.length co21 : Value).ownBlock ∧ some k_ ≠ (.slice Ao52 t504.length co52 : Value).ownBlock ∧ some k_ ≠ (.slice Ao54 t508.length co54 : Value).ownBlock) (Kd.R_keptB (HO_503001.out) hkp (fun k_ hk_ hs_ => (hk_.2.1) hs_)) (fun k_ hk_ => ⟨hk_.1.1, hk_.1.2.1, hk_.1.2.2.1, hk_.1.2.2.2.1, hk_.1.2.2.2.2⟩)); have n4_ := as0 (blk_kept (by (with_reducible repeat (first | refine blk_drewN ?_ _ | refine blk_drew ?_ | refine blk_alloc ?_ _)); exact BK490.out) hkp (fun hs_ => (fun e_ => (Kd.R_ne HO_12.out BK490.out (by decide)) e_) hs_)); have n5_ := as0 (blk_kept (by (with_reducible repeat (first | refine blk_drewN ?_ _ | refine blk_drew ?_ | refine blk_alloc ?_ _)); exact BK502.out) hkp (fun hs_ => (fun e_ => (Kd.R_ne HO_12.out BK502.out (by decide)) e_) hs_)); have n6_ := as0 (Kd.R_mono (ok' := fun k_ => some k_ ≠ (.slice Ao24 t491.length co24 : Value).ownBlock ∧ some k_ ≠ (.slice Ao25 t494.length co25 : Value).ownBlock ∧ some k_ ≠ (.slice Ao21 t486.length co21 : Value).ownBlock ∧ some k_ ≠ (.slice Ao30 t498.length co30 : Value).ownBlock ∧ some k_ ≠ (.slice Ao54 t508.length co54 : Value).ownBlock) (Kd.R_keptB (HO506.out) hkp (fun k_ hk_ hs_ => (hk_.2.1) hs_)) (fun k_ hk_ => ⟨hk_.1.1, hk_.1.2.1, hk_.1.2.2.1, hk_.1.2.2.2.1, hk_.1.2.2.2.2⟩)); have n7_ := as0 (Kd.R_mono (ok' := fun k_ => some k_ ≠ (.slice Ao24 t491.length co24 : Value).ownBlock ∧ some k_ ≠ (.slice Ao25 t494.length co25 : Value).ownBlock ∧ some k_ ≠ (.slice Ao21 t486.length co21 : Value).ownBlock ∧ some k_ ≠ (.slice Ao30 t498.length co30 : Value).ownBlock ∧ some k_ ≠ (.slice Ao52 t504.length co52 : Value).ownBlock) (Kd.R_keptB (HO510.out) hkp (fun k_ hk_ hs_ => (hk_.2.1) hs_)) (fun k_ hk_ => ⟨hk_.1.1, hk_.1.2.1, hk_.1.2.2.1, hk_.1.2.2.2.1, hk_.1.2.2.2.2⟩)); have n8_ := as0 (hb); clear HO_11; clear HO_12; clear HO_491001; clear HO_503001; clear BK490; clear BK502; clear HO506; clear HO510; clear HB; have HO_11 := n0_; have HO_12 := n1_; have HO_491001 := n2_; have HO_503001 := n3_; have BK490 := n4_; have BK502 := n5_; have HO506 := n6_; have HO510 := n7_; have HB := n8_; clear n0_ n1_ n2_ n3_ n4_ n5_ n6_ n7_ n8_; (try clear hb); (try clear hkp); (try clear hy0)))
        (try simp only [Act.put, List.setIfInBounds_toArray, List.set_cons_zero, List.set_cons_succ])
        go_cut [85] (fun v85 wc => ∃ (kq : Nat) (x85_49 : Bool), v85 = .bool x85_49 ∧ Aside0 (laws_FnExactMomentsOfNodes.j1 kq a0 l1 l2 a3 t489 x85_49 t485 t486 t497 t498 = some r) ∧ Aside0 (kq ≤ kj12) ∧ Aside0 (Kd.R (Kd.int .i64) 2 wc w.heap.size (fun k_ => some k_ ≠ ((.slice Ao30 t498.length co30) : Value).ownBlock) (.slice Ao21 t486.length co21) t486) ∧ Aside0 (Kd.R (Kd.int .i64) 2 wc w.heap.size (fun k_ => some k_ ≠ ((.slice Ao21 t486.length co21) : Value).ownBlock) (.slice Ao30 t498.length co30) t498) ∧ Aside0 (wc.heap[gb490]? = some (.cells #[.int .i64 t485, (.slice Ao21 t486.length co21)] 30 (0, 0))) ∧ Aside0 (wc.heap[gb502]? = some (.cells #[.int .i64 t497, (.slice Ao30 t498.length co30)] 30 (0, 0))) ∧ Aside0 (Below w.heap.size w wc))
        case first =>
         have H := HC50.out
         clear HC50
         by_cases c57 : t514 < 0
         ·
          rw [if_pos c57] at H
          have c57b0 : decide (t514 < 0) = true := decide_eq_true c57
          clear c57
          (first | rw [c57b0] | (simp only [i64_w, i32_w]; rw [c57b0]) | skip)
          have H' := as0 H
          clear H
          go_wp2
          go_meet
          case rel => exact ⟨_, (true), ea_, H', ⟨by have := HJ12.out; first | omega | exact Nat.le_refl _⟩, ⟨by (with_reducible repeat (first | apply Kd.R_alloc | apply Kd.R_drewN | apply Kd.R_drew)); exact Kd.R_mono HO_491001.out (fun _ hk => hk.2.2.1)⟩, ⟨by (with_reducible repeat (first | apply Kd.R_alloc | apply Kd.R_drewN | apply Kd.R_drew)); exact Kd.R_mono HO_503001.out (fun _ hk => hk.2.2.1)⟩, ⟨by (with_reducible repeat (first | refine blk_drewN ?_ _ | refine blk_drew ?_ | refine blk_alloc ?_ _)); exact BK490.out⟩, ⟨by (with_reducible repeat (first | refine blk_drewN ?_ _ | refine blk_drew ?_ | refine blk_alloc ?_ _)); exact BK502.out⟩, ⟨by repeat (first | (with_reducible first | exact HB.out | apply below_alloc | apply pw_below_drewN | apply below_drew1 | refine below_set ?_ GE490.out | refine below_set ?_ GE502.out) | exact HB.out)⟩⟩
         ·
          rw [if_neg c57] at H
          have c57b0 : decide (t514 < 0) = false := decide_eq_false c57
          clear c57
          (first | rw [c57b0] | (simp only [i64_w, i32_w]; rw [c57b0]) | skip)
          replace H := Option.bind_eq_some_iff.mp H
          obtain ⟨t516, A580, H⟩ := H
          have A58 := as0 A580
          clear A580
          by_cases c59 : t516 = true
          ·
           subst c59
           have H1 : (laws_FnExactMomentsOfNodes.j1 kj12 a0 l1 l2 a3 t489 (t501 != t489) t485 t486 t497 t498) = some r := by rw [if_pos rfl] at H; exact H
           clear H
           have H := H1
           clear H1
           have H' := as0 H
           clear H
           have hnb60 := NB502_490.out
           have hnc60 := NB490_502.out
           have hcz61_0 : w56.cell? ⟨gb502, 0, none⟩ = some (.int .i64 t497) := (blk_cell BK502.out 0).trans rfl
           have hcz61_1 : w56.cell? ⟨gb502, 1, none⟩ = some (.slice Ao30 t498.length co30) := (blk_cell BK502.out 1).trans rfl
           have hfz61_0 := blk_frozen BK502.out 0
           have hfz61_1 := blk_frozen BK502.out 1
           have hcz62_0 : w56.cell? ⟨gb490, 0, none⟩ = some (.int .i64 t485) := (blk_cell BK490.out 0).trans rfl
           have hcz62_1 : w56.cell? ⟨gb490, 1, none⟩ = some (.slice Ao21 t486.length co21) := (blk_cell BK490.out 1).trans rfl
           have hfz62_0 := blk_frozen BK490.out 0
           have hfz62_1 := blk_frozen BK490.out 1
           go_wp2_with (first | (go_at_call 13; (with_reducible refine (laws_eqMoments.calls kj12 t497 _ _ t498 t485 _ _ t486 true _ ?side1 ?side2 ?side3 ?side4 A58.out).mono ?_); (case side1 => exact cs ((Kd.R_reads' HO_503001.out).2.2)); (case side2 => exact (Kd.R_reads' HO_503001.out).2.1); (case side3 => exact cs ((Kd.R_reads' HO_491001.out).2.2)); (case side4 => exact (Kd.R_reads' HO_491001.out).2.1); rintro e w63 ⟨rfl, hb⟩; have n0_ := as0 (Kd.R_below (rs HO_11) hb); have n1_ := as0 (Kd.R_below (rs HO_12) hb); have n2_ := as0 (Kd.R_below (rs HO_491001) hb); have n3_ := as0 (Kd.R_below (rs HO_503001) hb); have n4_ := as0 (Kd.R_below (rs HO506) hb); have n5_ := as0 (Kd.R_below (rs HO510) hb); have n6_ := as0 (blk_below (g := gb490) (o := .cells #[.int .i64 t485, .slice Ao21 t486.length co21] 30 (0, 0)) (by (with_reducible repeat (first | refine blk_drewN ?_ _ | refine blk_drew ?_ | refine blk_alloc ?_ _)); exact BK490.out) hb); have n7_ := as0 (blk_below (g := gb502) (o := .cells #[.int .i64 t497, .slice Ao30 t498.length co30] 30 (0, 0)) (by (with_reducible repeat (first | refine blk_drewN ?_ _ | refine blk_drew ?_ | refine blk_alloc ?_ _)); exact BK502.out) hb); have n8_ := as0 (below_step (by repeat (first | (with_reducible first | exact HB.out | apply below_alloc | apply pw_below_drewN | apply below_drew1 | refine below_set ?_ GE490.out | refine below_set ?_ GE502.out) | exact HB.out)) hb); clear HO_11; clear HO_12; clear HO_491001; clear HO_503001; clear HO506; clear HO510; clear BK490; clear BK502; clear HB; have HO_11 := n0_; have HO_12 := n1_; have HO_491001 := n2_; have HO_503001 := n3_; have HO506 := n4_; have HO510 := n5_; have BK490 := n6_; have BK502 := n7_; have HB := n8_; clear n0_ n1_ n2_ n3_ n4_ n5_ n6_ n7_ n8_; (try clear hb); (try clear hb2); (try clear hk); (try clear hi)))
           go_meet
           case rel => exact ⟨_, ((t501 != t489)), ea_, H', ⟨by have := HJ12.out; first | omega | exact Nat.le_refl _⟩, ⟨by (with_reducible repeat (first | apply Kd.R_alloc | apply Kd.R_drewN | apply Kd.R_drew)); exact Kd.R_mono HO_491001.out (fun _ hk => hk.2.2.1)⟩, ⟨by (with_reducible repeat (first | apply Kd.R_alloc | apply Kd.R_drewN | apply Kd.R_drew)); exact Kd.R_mono HO_503001.out (fun _ hk => hk.2.2.1)⟩, ⟨by (with_reducible repeat (first | refine blk_drewN ?_ _ | refine blk_drew ?_ | refine blk_alloc ?_ _)); exact BK490.out⟩, ⟨by (with_reducible repeat (first | refine blk_drewN ?_ _ | refine blk_drew ?_ | refine blk_alloc ?_ _)); exact BK502.out⟩, ⟨by repeat (first | (with_reducible first | exact HB.out | apply below_alloc | apply pw_below_drewN | apply below_drew1 | refine below_set ?_ GE490.out | refine below_set ?_ GE502.out) | exact HB.out)⟩⟩
          ·
           replace c59 := Bool.eq_false_iff.mpr c59
           subst c59
           have H1 : (laws_FnExactMomentsOfNodes.j1 kj12 a0 l1 l2 a3 t489 true t485 t486 t497 t498) = some r := by rw [if_neg (show ¬ (false = true) by decide)] at H; exact H
           clear H
           have H := H1
           clear H1
           have H' := as0 H
           clear H
           have hnb64 := NB502_490.out
           have hnc64 := NB490_502.out
           have hcz65_0 : w56.cell? ⟨gb502, 0, none⟩ = some (.int .i64 t497) := (blk_cell BK502.out 0).trans rfl
           have hcz65_1 : w56.cell? ⟨gb502, 1, none⟩ = some (.slice Ao30 t498.length co30) := (blk_cell BK502.out 1).trans rfl
           have hfz65_0 := blk_frozen BK502.out 0
           have hfz65_1 := blk_frozen BK502.out 1
           have hcz66_0 : w56.cell? ⟨gb490, 0, none⟩ = some (.int .i64 t485) := (blk_cell BK490.out 0).trans rfl
           have hcz66_1 : w56.cell? ⟨gb490, 1, none⟩ = some (.slice Ao21 t486.length co21) := (blk_cell BK490.out 1).trans rfl
           have hfz66_0 := blk_frozen BK490.out 0
           have hfz66_1 := blk_frozen BK490.out 1
           go_wp2_with (first | (go_at_call 13; (with_reducible refine (laws_eqMoments.calls kj12 t497 _ _ t498 t485 _ _ t486 false _ ?side1 ?side2 ?side3 ?side4 A58.out).mono ?_); (case side1 => exact cs ((Kd.R_reads' HO_503001.out).2.2)); (case side2 => exact (Kd.R_reads' HO_503001.out).2.1); (case side3 => exact cs ((Kd.R_reads' HO_491001.out).2.2)); (case side4 => exact (Kd.R_reads' HO_491001.out).2.1); rintro e w67 ⟨rfl, hb⟩; have n0_ := as0 (Kd.R_below (rs HO_11) hb); have n1_ := as0 (Kd.R_below (rs HO_12) hb); have n2_ := as0 (Kd.R_below (rs HO_491001) hb); have n3_ := as0 (Kd.R_below (rs HO_503001) hb); have n4_ := as0 (Kd.R_below (rs HO506) hb); have n5_ := as0 (Kd.R_below (rs HO510) hb); have n6_ := as0 (blk_below (g := gb490) (o := .cells #[.int .i64 t485, .slice Ao21 t486.length co21] 30 (0, 0)) (by (with_reducible repeat (first | refine blk_drewN ?_ _ | refine blk_drew ?_ | refine blk_alloc ?_ _)); exact BK490.out) hb); have n7_ := as0 (blk_below (g := gb502) (o := .cells #[.int .i64 t497, .slice Ao30 t498.length co30] 30 (0, 0)) (by (with_reducible repeat (first | refine blk_drewN ?_ _ | refine blk_drew ?_ | refine blk_alloc ?_ _)); exact BK502.out) hb); have n8_ := as0 (below_step (by repeat (first | (with_reducible first | exact HB.out | apply below_alloc | apply pw_below_drewN | apply below_drew1 | refine below_set ?_ GE490.out | refine below_set ?_ GE502.out) | exact HB.out)) hb); clear HO_11; clear HO_12; clear HO_491001; clear HO_503001; clear HO506; clear HO510; clear BK490; clear BK502; clear HB; have HO_11 := n0_; have HO_12 := n1_; have HO_491001 := n2_; have HO_503001 := n3_; have HO506 := n4_; have HO510 := n5_; have BK490 := n6_; have BK502 := n7_; have HB := n8_; clear n0_ n1_ n2_ n3_ n4_ n5_ n6_ n7_ n8_; (try clear hb); (try clear hb2); (try clear hk); (try clear hi)))
           go_meet
           case rel => exact ⟨_, (true), ea_, H', ⟨by have := HJ12.out; first | omega | exact Nat.le_refl _⟩, ⟨by (with_reducible repeat (first | apply Kd.R_alloc | apply Kd.R_drewN | apply Kd.R_drew)); exact Kd.R_mono HO_491001.out (fun _ hk => hk.2.2.1)⟩, ⟨by (with_reducible repeat (first | apply Kd.R_alloc | apply Kd.R_drewN | apply Kd.R_drew)); exact Kd.R_mono HO_503001.out (fun _ hk => hk.2.2.1)⟩, ⟨by (with_reducible repeat (first | refine blk_drewN ?_ _ | refine blk_drew ?_ | refine blk_alloc ?_ _)); exact BK490.out⟩, ⟨by (with_reducible repeat (first | refine blk_drewN ?_ _ | refine blk_drew ?_ | refine blk_alloc ?_ _)); exact BK502.out⟩, ⟨by repeat (first | (with_reducible first | exact HB.out | apply below_alloc | apply pw_below_drewN | apply below_drew1 | refine below_set ?_ GE490.out | refine below_set ?_ GE502.out) | exact HB.out)⟩⟩
        case rest =>
         clear HC50
         try clear c1
         try clear c2
         try clear p2
         try clear c3
         try clear c4
         try clear c5
         try clear c5b0
         try clear c5b1
         try clear c6
         try clear c6b0
         try clear c6b1
         try clear c8
         try clear c9
         try clear c11
         try clear c12
         try clear c13
         try clear c28
         try clear c32
         try clear c33
         try clear c37
         try clear c41
         try clear c44
         try clear c47
         try clear c57
         try clear c57b0
         try clear c59
         try clear c60
         try clear c64
         try clear hcz20_0
         try clear hcz20_1
         try clear hcz29_0
         try clear hcz29_1
         try clear hcz34_0
         try clear hcz34_1
         try clear hcz35_0
         try clear hcz35_1
         try clear hcz38_0
         try clear hcz38_1
         try clear hcz39_0
         try clear hcz39_1
         try clear hcz61_0
         try clear hcz61_1
         try clear hcz62_0
         try clear hcz62_1
         try clear hcz65_0
         try clear hcz65_1
         try clear hcz66_0
         try clear hcz66_1
         try clear hfz20_0
         try clear hfz20_1
         try clear hfz29_0
         try clear hfz29_1
         try clear hfz34_0
         try clear hfz34_1
         try clear hfz35_0
         try clear hfz35_1
         try clear hfz38_0
         try clear hfz38_1
         try clear hfz39_0
         try clear hfz39_1
         try clear hfz61_0
         try clear hfz61_1
         try clear hfz62_0
         try clear hfz62_1
         try clear hfz65_0
         try clear hfz65_1
         try clear hfz66_0
         try clear hfz66_1
         try clear p2
         obtain ⟨kq, x85_49, rfl, HA, HJ49, HO_491001, HO_503001, BK490, BK502, HB⟩ := hcut
         cases kq with
         | zero => exact absurd HA.out (by simp [laws_FnExactMomentsOfNodes.j1])
         | succ kj49 =>
          have H := HA.out
          clear HA
          simp only [laws_FnExactMomentsOfNodes.j1] at H
          by_cases c68 : x85_49 = true
          ·
           subst c68
           have H1 : (some false) = some r := by rw [if_pos rfl] at H; exact H
           clear H
           have H := H1
           clear H1
           obtain rfl := Option.some.inj H
           go_wp2
           go_ret
           exact ⟨er_, by repeat (first | (with_reducible first | exact HB.out | apply below_alloc | apply pw_below_drewN | apply below_drew1 | refine below_set ?_ GE490.out | refine below_set ?_ GE502.out) | exact HB.out)⟩
          ·
           replace c68 := Bool.eq_false_iff.mpr c68
           subst c68
           have H1 : ((laws_markMoments.f kj49 t497 t498 1).bind fun bt517 => ((laws_heldMoments.f kj49 t497 bt517.2 1).bind fun t519 => (if t519 < 0 then (some false) else (if t519 = bt517.1 then ((laws_toInt64S.f kj49 l1).bind fun t520 => ((laws_toInt64S.f kj49 l2).bind fun t523 => ((impl_MomentsOfNodes.f kj49 a0 t520 t523 a3).bind fun bt526 => ((laws_eqMoments.f kj49 bt526.1 bt526.2.1 t485 t486).bind fun t532 => (if t532 = true then (laws_FnExactMomentsOfNodes.j2 kj49 bt517.1 (bt526.2.2 != t489) t497 bt517.2) else (laws_FnExactMomentsOfNodes.j2 kj49 bt517.1 true t497 bt517.2)))))) else (some false))))) = some r := by rw [if_neg (show ¬ (false = true) by decide)] at H; exact H
           clear H
           have H := H1
           clear H1
           replace H := Option.bind_eq_some_iff.mp H
           obtain ⟨⟨t517, t518⟩, A690, H⟩ := H
           have A69 := as0 A690
           clear A690
           replace H := Option.bind_eq_some_iff.mp H
           obtain ⟨t519, A700, H⟩ := H
           have A70 := as0 A700
           clear A700
           by_cases c71 : t519 < 0
           ·
            rw [if_pos c71] at H
            have c71b0 : decide (t519 < 0) = true := decide_eq_true c71
            clear c71
            obtain rfl := Option.some.inj H
            have hnb72 := NB502_490.out
            have hnc72 := NB490_502.out
            have hcz73_0 : wc.cell? ⟨gb502, 0, none⟩ = some (.int .i64 t497) := (blk_cell BK502.out 0).trans rfl
            have hcz73_1 : wc.cell? ⟨gb502, 1, none⟩ = some (.slice Ao30 t498.length co30) := (blk_cell BK502.out 1).trans rfl
            have hfz73_0 := blk_frozen BK502.out 0
            have hfz73_1 := blk_frozen BK502.out 1
            go_wp2_with (first | ((with_reducible refine gate_callee (f := 14) rfl ?_); refine goesM_ (some 88) rfl rfl Try.func14 #[.agg #[.int .i64 t497, .slice Ao30 t498.length co30], .int .i64 1] rfl ?_; (with_reducible refine (laws_markMoments.calls kj49 t497 (fun k_ => some k_ = (.slice Ao30 t498.length co30 : Value).ownBlock) (.slice Ao30 t498.length co30) t498 1 t517 t518 w _ ?side1 ?side2 A69.out).mono ?_); (case side1 => repeat (first | (with_reducible first | exact HB.out | apply below_alloc | apply pw_below_drewN | apply below_drew1 | refine below_set ?_ GE490.out | refine below_set ?_ GE502.out) | exact HB.out)); (case side2 => exact Kd.R_tight rfl HO_503001.out); rintro e w74 ⟨rfl, hy0, hb, hkp⟩; refine ⟨_, rfl, ?_⟩; have n0_ := as0 (Kd.R_mono (ok' := fun k_ => some k_ ≠ (.slice Ao30 t498.length co30 : Value).ownBlock) (Kd.R_keptB (HO_491001.out) hkp (fun k_ hk_ hs_ => (hk_) hs_)) (fun k_ hk_ => hk_.1)); have n1_ := as0 (Kd.R_reok rfl hy0 (fun k_ e_ => HO_503001.out.1 k_ e_)); have n2_ := as0 (blk_kept (by (with_reducible repeat (first | refine blk_drewN ?_ _ | refine blk_drew ?_ | refine blk_alloc ?_ _)); exact BK490.out) hkp (fun hs_ => (fun e_ => (Kd.R_ne HO_503001.out BK490.out (by decide)) e_) hs_)); have n3_ := as0 (blk_kept (by (with_reducible repeat (first | refine blk_drewN ?_ _ | refine blk_drew ?_ | refine blk_alloc ?_ _)); exact BK502.out) hkp (fun hs_ => (fun e_ => (Kd.R_ne HO_503001.out BK502.out (by decide)) e_) hs_)); have n4_ := as0 (hb); clear HO_491001; clear HO_503001; clear BK490; clear BK502; clear HB; have HO_491001 := n0_; have HO_503001 := n1_; have BK490 := n2_; have BK502 := n3_; have HB := n4_; clear n0_ n1_ n2_ n3_ n4_; (try clear hb); (try clear hkp); (try clear hy0); have hcz75_0 : w74.cell? ⟨gb502, 0, none⟩ = some (.int .i64 t497) := (blk_cell BK502.out 0).trans rfl; have hcz75_1 : w74.cell? ⟨gb502, 1, none⟩ = some (.slice Ao30 t498.length co30) := (blk_cell BK502.out 1).trans rfl; have hfz75_0 := blk_frozen BK502.out 0; have hfz75_1 := blk_frozen BK502.out 1) | ((with_reducible refine gate_callee (f := 15) rfl ?_); refine goesL_ (some 91) rfl rfl Try.func15 (by kernel_rfl) rfl #[.agg #[.int .i64 t497, .slice Ao30 t518.length co30], .int .i64 1] rfl (by (try simp only [List.map_toArray, List.map_cons, List.map_nil]); first | done | (rw [show t518.length = t498.length from (Kd.R_reads' HO_503001.out).1.symm] <;> rfl) | rfl | (simp only [List.length_drop, List.length_take]; rfl)) ?_; (with_reducible refine (laws_heldMoments.calls kj49 t497 _ _ t518 1 t519 _ ?side1 ?side2 A70.out).mono ?_); (case side1 => exact cs ((Kd.R_reads' HO_503001.out).2.2)); (case side2 => rw [show t518.length = t498.length from (Kd.R_reads' HO_503001.out).1.symm]; exact (Kd.R_reads' HO_503001.out).2.1); rintro e w76 ⟨rfl, hb⟩; refine ⟨_, rfl, ?_⟩; have n0_ := as0 (Kd.R_below (rs HO_491001) hb); have n1_ := as0 (Kd.R_below (rs HO_503001) hb); have n2_ := as0 (blk_below (g := gb490) (o := .cells #[.int .i64 t485, .slice Ao21 t486.length co21] 30 (0, 0)) (by (with_reducible repeat (first | refine blk_drewN ?_ _ | refine blk_drew ?_ | refine blk_alloc ?_ _)); exact BK490.out) hb); have n3_ := as0 (blk_below (g := gb502) (o := .cells #[.int .i64 t497, .slice Ao30 t498.length co30] 30 (0, 0)) (by (with_reducible repeat (first | refine blk_drewN ?_ _ | refine blk_drew ?_ | refine blk_alloc ?_ _)); exact BK502.out) hb); have n4_ := as0 (below_step (by repeat (first | (with_reducible first | exact HB.out | apply below_alloc | apply pw_below_drewN | apply below_drew1 | refine below_set ?_ GE490.out | refine below_set ?_ GE502.out) | exact HB.out)) hb); clear HO_491001; clear HO_503001; clear BK490; clear BK502; clear HB; have HO_491001 := n0_; have HO_503001 := n1_; have BK490 := n2_; have BK502 := n3_; have HB := n4_; clear n0_ n1_ n2_ n3_ n4_; (try clear hb); (try clear hb2); (try clear hk); (try clear hi)))
            go_ret
            exact ⟨er_, by repeat (first | (with_reducible first | exact HB.out | apply below_alloc | apply pw_below_drewN | apply below_drew1 | refine below_set ?_ GE490.out | refine below_set ?_ GE502.out) | exact HB.out)⟩
           ·
            rw [if_neg c71] at H
            have c71b0 : decide (t519 < 0) = false := decide_eq_false c71
            clear c71
            by_cases c77 : t519 = t517
            ·
             rw [if_pos c77] at H
             have c77b0 : (t519 == t517) = true := beq_iff_eq.mpr c77
             have c77b1 : (t519 != t517) = false := bne_eq_false_iff_eq.mpr c77
             clear c77
             replace H := Option.bind_eq_some_iff.mp H
             obtain ⟨t520, A780, H⟩ := H
             have A78 := as0 A780
             clear A780
             replace H := Option.bind_eq_some_iff.mp H
             obtain ⟨t523, A790, H⟩ := H
             have A79 := as0 A790
             clear A790
             replace H := Option.bind_eq_some_iff.mp H
             obtain ⟨⟨t526, t527, t530⟩, A800, H⟩ := H
             have A80 := as0 A800
             clear A800
             have HC81 := as0 H
             clear H
             have hnb82 := NB502_490.out
             have hnc82 := NB490_502.out
             have hcz83_0 : wc.cell? ⟨gb502, 0, none⟩ = some (.int .i64 t497) := (blk_cell BK502.out 0).trans rfl
             have hcz83_1 : wc.cell? ⟨gb502, 1, none⟩ = some (.slice Ao30 t498.length co30) := (blk_cell BK502.out 1).trans rfl
             have hfz83_0 := blk_frozen BK502.out 0
             have hfz83_1 := blk_frozen BK502.out 1
             go_upto_region 29 with (first | ((with_reducible refine gate_callee (f := 14) rfl ?_); refine goesM_ (some 88) rfl rfl Try.func14 #[.agg #[.int .i64 t497, .slice Ao30 t498.length co30], .int .i64 1] rfl ?_; (with_reducible refine (laws_markMoments.calls kj49 t497 (fun k_ => some k_ = (.slice Ao30 t498.length co30 : Value).ownBlock) (.slice Ao30 t498.length co30) t498 1 t517 t518 w _ ?side1 ?side2 A69.out).mono ?_); (case side1 => repeat (first | (with_reducible first | exact HB.out | apply below_alloc | apply pw_below_drewN | apply below_drew1 | refine below_set ?_ GE490.out | refine below_set ?_ GE502.out) | exact HB.out)); (case side2 => exact Kd.R_tight rfl HO_503001.out); rintro e w84 ⟨rfl, hy0, hb, hkp⟩; refine ⟨_, rfl, ?_⟩; have n0_ := as0 (Kd.R_mono (ok' := fun k_ => some k_ ≠ (.slice Ao30 t498.length co30 : Value).ownBlock) (Kd.R_keptB (HO_491001.out) hkp (fun k_ hk_ hs_ => (hk_) hs_)) (fun k_ hk_ => hk_.1)); have n1_ := as0 (Kd.R_reok rfl hy0 (fun k_ e_ => HO_503001.out.1 k_ e_)); have n2_ := as0 (blk_kept (by (with_reducible repeat (first | refine blk_drewN ?_ _ | refine blk_drew ?_ | refine blk_alloc ?_ _)); exact BK490.out) hkp (fun hs_ => (fun e_ => (Kd.R_ne HO_503001.out BK490.out (by decide)) e_) hs_)); have n3_ := as0 (blk_kept (by (with_reducible repeat (first | refine blk_drewN ?_ _ | refine blk_drew ?_ | refine blk_alloc ?_ _)); exact BK502.out) hkp (fun hs_ => (fun e_ => (Kd.R_ne HO_503001.out BK502.out (by decide)) e_) hs_)); have n4_ := as0 (hb); clear HO_491001; clear HO_503001; clear BK490; clear BK502; clear HB; have HO_491001 := n0_; have HO_503001 := n1_; have BK490 := n2_; have BK502 := n3_; have HB := n4_; clear n0_ n1_ n2_ n3_ n4_; (try clear hb); (try clear hkp); (try clear hy0); have hcz85_0 : w84.cell? ⟨gb502, 0, none⟩ = some (.int .i64 t497) := (blk_cell BK502.out 0).trans rfl; have hcz85_1 : w84.cell? ⟨gb502, 1, none⟩ = some (.slice Ao30 t498.length co30) := (blk_cell BK502.out 1).trans rfl; have hfz85_0 := blk_frozen BK502.out 0; have hfz85_1 := blk_frozen BK502.out 1) | ((with_reducible refine gate_callee (f := 15) rfl ?_); refine goesL_ (some 91) rfl rfl Try.func15 (by kernel_rfl) rfl #[.agg #[.int .i64 t497, .slice Ao30 t518.length co30], .int .i64 1] rfl (by (try simp only [List.map_toArray, List.map_cons, List.map_nil]); first | done | (rw [show t518.length = t498.length from (Kd.R_reads' HO_503001.out).1.symm] <;> rfl) | rfl | (simp only [List.length_drop, List.length_take]; rfl)) ?_; (with_reducible refine (laws_heldMoments.calls kj49 t497 _ _ t518 1 t519 _ ?side1 ?side2 A70.out).mono ?_); (case side1 => exact cs ((Kd.R_reads' HO_503001.out).2.2)); (case side2 => rw [show t518.length = t498.length from (Kd.R_reads' HO_503001.out).1.symm]; exact (Kd.R_reads' HO_503001.out).2.1); rintro e w86 ⟨rfl, hb⟩; refine ⟨_, rfl, ?_⟩; have n0_ := as0 (Kd.R_below (rs HO_491001) hb); have n1_ := as0 (Kd.R_below (rs HO_503001) hb); have n2_ := as0 (blk_below (g := gb490) (o := .cells #[.int .i64 t485, .slice Ao21 t486.length co21] 30 (0, 0)) (by (with_reducible repeat (first | refine blk_drewN ?_ _ | refine blk_drew ?_ | refine blk_alloc ?_ _)); exact BK490.out) hb); have n3_ := as0 (blk_below (g := gb502) (o := .cells #[.int .i64 t497, .slice Ao30 t498.length co30] 30 (0, 0)) (by (with_reducible repeat (first | refine blk_drewN ?_ _ | refine blk_drew ?_ | refine blk_alloc ?_ _)); exact BK502.out) hb); have n4_ := as0 (below_step (by repeat (first | (with_reducible first | exact HB.out | apply below_alloc | apply pw_below_drewN | apply below_drew1 | refine below_set ?_ GE490.out | refine below_set ?_ GE502.out) | exact HB.out)) hb); clear HO_491001; clear HO_503001; clear BK490; clear BK502; clear HB; have HO_491001 := n0_; have HO_503001 := n1_; have BK490 := n2_; have BK502 := n3_; have HB := n4_; clear n0_ n1_ n2_ n3_ n4_; (try clear hb); (try clear hb2); (try clear hk); (try clear hi)) | ((with_reducible refine gate_callee (f := 6) rfl ?_); refine goesM_ (some 100) rfl rfl Try.func6 #[.slice A1 l1.length c1] rfl ?_; (with_reducible refine (laws_toInt64S.calls kj49 _ _ l1 t520 _ ?side1 ?side2 A78.out).mono ?_); (case side1 => exact cs ((Kd.C_below HR1.out HB.out))); (case side2 => exact HC1.out); rintro e w87 ⟨v521, rfl, ho0, hb⟩; refine ⟨_, rfl, ?_⟩; have n0_ := as0 (Kd.R_elder' (rs HO_491001) (Kd.R_base ho0) hb); have n1_ := as0 (Kd.R_elder' (rs HO_503001) (Kd.R_base ho0) hb); have n2_ := as0 (Kd.R_lower (Kd.R_new' (Kd.R_new' ho0 (Kd.R_lt (rs HO_491001))) (Kd.R_lt (rs HO_503001))) (below_size (by repeat (first | (with_reducible first | exact HB.out | apply below_alloc | apply pw_below_drewN | apply below_drew1 | refine below_set ?_ GE490.out | refine below_set ?_ GE502.out) | exact HB.out)))); have n3_ := as0 (blk_below (g := gb490) (o := .cells #[.int .i64 t485, .slice Ao21 t486.length co21] 30 (0, 0)) (by (with_reducible repeat (first | refine blk_drewN ?_ _ | refine blk_drew ?_ | refine blk_alloc ?_ _)); exact BK490.out) hb); have n4_ := as0 (blk_below (g := gb502) (o := .cells #[.int .i64 t497, .slice Ao30 t498.length co30] 30 (0, 0)) (by (with_reducible repeat (first | refine blk_drewN ?_ _ | refine blk_drew ?_ | refine blk_alloc ?_ _)); exact BK502.out) hb); have n5_ := as0 (below_step (by repeat (first | (with_reducible first | exact HB.out | apply below_alloc | apply pw_below_drewN | apply below_drew1 | refine below_set ?_ GE490.out | refine below_set ?_ GE502.out) | exact HB.out)) hb); clear HO_491001; clear HO_503001; clear BK490; clear BK502; clear HB; have HO_491001 := n0_; have HO_503001 := n1_; have HO522 := n2_; have BK490 := n3_; have BK502 := n4_; have HB := n5_; clear n0_ n1_ n2_ n3_ n4_ n5_; (try clear hb); (try clear hb2); (try clear hk); (try clear hi); (try clear ho0)) | ((with_reducible refine gate_callee (f := 6) rfl ?_); refine goesM_ (some 102) rfl rfl Try.func6 #[.slice A2 l2.length c2] rfl ?_; (with_reducible refine (laws_toInt64S.calls kj49 _ _ l2 t523 _ ?side1 ?side2 A79.out).mono ?_); (case side1 => exact cs ((Kd.C_below HR2.out HB.out))); (case side2 => exact HC2.out); rintro e w88 ⟨v524, rfl, ho0, hb⟩; refine ⟨_, rfl, ?_⟩; have n0_ := as0 (Kd.R_elder' (rs HO_491001) (Kd.R_base ho0) hb); have n1_ := as0 (Kd.R_elder' (rs HO_503001) (Kd.R_base ho0) hb); have n2_ := as0 (Kd.R_elder' (rs HO522) (Kd.R_base ho0) hb); have n3_ := as0 (Kd.R_lower (Kd.R_new' (Kd.R_new' (Kd.R_new' ho0 (Kd.R_lt (rs HO_491001))) (Kd.R_lt (rs HO_503001))) (Kd.R_lt (rs HO522))) (below_size (by repeat (first | (with_reducible first | exact HB.out | apply below_alloc | apply pw_below_drewN | apply below_drew1 | refine below_set ?_ GE490.out | refine below_set ?_ GE502.out) | exact HB.out)))); have n4_ := as0 (blk_below (g := gb490) (o := .cells #[.int .i64 t485, .slice Ao21 t486.length co21] 30 (0, 0)) (by (with_reducible repeat (first | refine blk_drewN ?_ _ | refine blk_drew ?_ | refine blk_alloc ?_ _)); exact BK490.out) hb); have n5_ := as0 (blk_below (g := gb502) (o := .cells #[.int .i64 t497, .slice Ao30 t498.length co30] 30 (0, 0)) (by (with_reducible repeat (first | refine blk_drewN ?_ _ | refine blk_drew ?_ | refine blk_alloc ?_ _)); exact BK502.out) hb); have n6_ := as0 (below_step (by repeat (first | (with_reducible first | exact HB.out | apply below_alloc | apply pw_below_drewN | apply below_drew1 | refine below_set ?_ GE490.out | refine below_set ?_ GE502.out) | exact HB.out)) hb); clear HO_491001; clear HO_503001; clear HO522; clear BK490; clear BK502; clear HB; have HO_491001 := n0_; have HO_503001 := n1_; have HO522 := n2_; have HO525 := n3_; have BK490 := n4_; have BK502 := n5_; have HB := n6_; clear n0_ n1_ n2_ n3_ n4_ n5_ n6_; (try clear hb); (try clear hb2); (try clear hk); (try clear hi); (try clear ho0); obtain ⟨Ao89, co89, eo89⟩ := Kd.R_slice HO522.out; subst eo89; obtain ⟨Ao90, co90, eo90⟩ := Kd.R_slice HO525.out; subst eo90) | ((with_reducible refine gate_callee (f := 12) rfl ?_); refine goesM_ (some 104) rfl rfl Try.func12 #[.int .i64 a0, .slice Ao89 t520.length co89, .slice Ao90 t523.length co90, .int .i64 a3] rfl ?_; (with_reducible refine (impl_MomentsOfNodes.calls kj49 a0 _ _ t520 _ _ t523 a3 t526 t527 t530 _ ?side1 ?side2 ?side3 ?side4 A80.out).mono ?_); (case side1 => exact cs ((Kd.R_reads' HO522.out).2.2)); (case side2 => exact (Kd.R_reads' HO522.out).2.1); (case side3 => exact cs ((Kd.R_reads' HO525.out).2.2)); (case side4 => exact (Kd.R_reads' HO525.out).2.1); rintro e w91 ⟨v528, rfl, ho0, hb⟩; refine ⟨_, rfl, ?_⟩; have n0_ := as0 (Kd.R_elder' (rs HO_491001) (Kd.R_base ho0) hb); have n1_ := as0 (Kd.R_elder' (rs HO_503001) (Kd.R_base ho0) hb); have n2_ := as0 (Kd.R_elder' (rs HO522) (Kd.R_base ho0) hb); have n3_ := as0 (Kd.R_elder' (rs HO525) (Kd.R_base ho0) hb); have n4_ := as0 (Kd.R_lower (Kd.R_new' (Kd.R_new' (Kd.R_new' (Kd.R_new' ho0 (Kd.R_lt (rs HO_491001))) (Kd.R_lt (rs HO_503001))) (Kd.R_lt (rs HO522))) (Kd.R_lt (rs HO525))) (below_size (by repeat (first | (with_reducible first | exact HB.out | apply below_alloc | apply pw_below_drewN | apply below_drew1 | refine below_set ?_ GE490.out | refine below_set ?_ GE502.out) | exact HB.out)))); have n5_ := as0 (blk_below (g := gb490) (o := .cells #[.int .i64 t485, .slice Ao21 t486.length co21] 30 (0, 0)) (by (with_reducible repeat (first | refine blk_drewN ?_ _ | refine blk_drew ?_ | refine blk_alloc ?_ _)); exact BK490.out) hb); have n6_ := as0 (blk_below (g := gb502) (o := .cells #[.int .i64 t497, .slice Ao30 t498.length co30] 30 (0, 0)) (by (with_reducible repeat (first | refine blk_drewN ?_ _ | refine blk_drew ?_ | refine blk_alloc ?_ _)); exact BK502.out) hb); have n7_ := as0 (below_step (by repeat (first | (with_reducible first | exact HB.out | apply below_alloc | apply pw_below_drewN | apply below_drew1 | refine below_set ?_ GE490.out | refine below_set ?_ GE502.out) | exact HB.out)) hb); clear HO_491001; clear HO_503001; clear HO522; clear HO525; clear BK490; clear BK502; clear HB; have HO_491001 := n0_; have HO_503001 := n1_; have HO522 := n2_; have HO525 := n3_; have HO529 := n4_; have BK490 := n5_; have BK502 := n6_; have HB := n7_; clear n0_ n1_ n2_ n3_ n4_ n5_ n6_ n7_; (try clear hb); (try clear hb2); (try clear hk); (try clear hi); (try clear ho0)) | ((with_reducible refine gate_dst (N := 18) rfl ?_); refine box_event ?hg (N := 18) ?hd (cs := #[.int .i64 0, .slice none 0 0]) (t := 30) ?hr ?_; (case hd => rfl); (case hg => rfl); (case hr => first | (go_simp; done) | (go_simp; rfl)); intro gb531 hg w92 hbox hb; have n0_ := as0 (Kd.R_below (rs HO_491001) hb); have n1_ := as0 (Kd.R_below (rs HO_503001) hb); have n2_ := as0 (Kd.R_below (rs HO522) hb); have n3_ := as0 (Kd.R_below (rs HO525) hb); have n4_ := as0 (Kd.R_below (rs HO529) hb); have n5_ := as0 (blk_below (g := gb490) (o := .cells #[.int .i64 t485, .slice Ao21 t486.length co21] 30 (0, 0)) (by (with_reducible repeat (first | refine blk_drewN ?_ _ | refine blk_drew ?_ | refine blk_alloc ?_ _)); exact BK490.out) hb); have n6_ := as0 (blk_below (g := gb502) (o := .cells #[.int .i64 t497, .slice Ao30 t498.length co30] 30 (0, 0)) (by (with_reducible repeat (first | refine blk_drewN ?_ _ | refine blk_drew ?_ | refine blk_alloc ?_ _)); exact BK502.out) hb); have n7_ := as0 (below_step (by repeat (first | (with_reducible first | exact HB.out | apply below_alloc | apply pw_below_drewN | apply below_drew1 | refine below_set ?_ GE490.out | refine below_set ?_ GE502.out) | exact HB.out)) hb); have n8_ := as0 (hbox); have n9_ := as0 ((by rw [hg]; exact (below_size (by repeat (first | (with_reducible first | exact HB.out | apply below_alloc | apply pw_below_drewN | apply below_drew1 | refine below_set ?_ GE490.out | refine below_set ?_ GE502.out) | exact HB.out))) : w.heap.size ≤ gb531)); have n10_ := as0 ((by rw [hg]; exact (below_size (by repeat (first | (with_reducible first | exact HB.out | apply below_alloc | apply pw_below_drewN | apply below_drew1 | refine below_set ?_ GE490.out | refine below_set ?_ GE502.out) | exact HB.out))) : w.heap.size ≤ gb531)); have n11_ := as0 ((by rw [hg]; exact Nat.ne_of_lt (blk_lt (g := gb490) (o := .cells #[.int .i64 t485, .slice Ao21 t486.length co21] 30 (0, 0)) (by (with_reducible repeat (first | refine blk_drewN ?_ _ | refine blk_drew ?_ | refine blk_alloc ?_ _)); exact BK490.out)) : gb490 ≠ gb531)); have n12_ := as0 ((by rw [hg]; exact Nat.ne_of_gt (blk_lt (g := gb490) (o := .cells #[.int .i64 t485, .slice Ao21 t486.length co21] 30 (0, 0)) (by (with_reducible repeat (first | refine blk_drewN ?_ _ | refine blk_drew ?_ | refine blk_alloc ?_ _)); exact BK490.out)) : gb531 ≠ gb490)); have n13_ := as0 ((by rw [hg]; exact Nat.ne_of_lt (blk_lt (g := gb502) (o := .cells #[.int .i64 t497, .slice Ao30 t498.length co30] 30 (0, 0)) (by (with_reducible repeat (first | refine blk_drewN ?_ _ | refine blk_drew ?_ | refine blk_alloc ?_ _)); exact BK502.out)) : gb502 ≠ gb531)); have n14_ := as0 ((by rw [hg]; exact Nat.ne_of_gt (blk_lt (g := gb502) (o := .cells #[.int .i64 t497, .slice Ao30 t498.length co30] 30 (0, 0)) (by (with_reducible repeat (first | refine blk_drewN ?_ _ | refine blk_drew ?_ | refine blk_alloc ?_ _)); exact BK502.out)) : gb531 ≠ gb502)); clear HO_491001; clear HO_503001; clear HO522; clear HO525; clear HO529; clear BK490; clear BK502; clear HB; have HO_491001 := n0_; have HO_503001 := n1_; have HO522 := n2_; have HO525 := n3_; have HO529 := n4_; have BK490 := n5_; have BK502 := n6_; have HB := n7_; have BK531 := n8_; have GW531 := n9_; have GE531 := n10_; have NB490_531 := n11_; have NB531_490 := n12_; have NB502_531 := n13_; have NB531_502 := n14_; clear n0_ n1_ n2_ n3_ n4_ n5_ n6_ n7_ n8_ n9_ n10_ n11_ n12_ n13_ n14_; clear hb hbox hg; have hnb93 := NB531_490.out; have hnc93 := NB490_531.out; have hnb94 := NB531_502.out; have hnc94 := NB502_531.out; have hcz95_0 : w92.cell? ⟨gb531, 0, none⟩ = some (.int .i64 0) := (blk_cell BK531.out 0).trans rfl; have hcz95_1 : w92.cell? ⟨gb531, 1, none⟩ = some (.slice none 0 0) := (blk_cell BK531.out 1).trans rfl; have hfz95_0 := blk_frozen BK531.out 0; have hfz95_1 := blk_frozen BK531.out 1; obtain ⟨Ao96, co96, eo96⟩ := Kd.R_slice HO529.out; subst eo96))
             (try simp only [Act.put, List.setIfInBounds_toArray, List.set_cons_zero, List.set_cons_succ])
             go_cut [115] (fun v115 wc => ∃ (kq : Nat) (x115_80 : Bool), v115 = .bool x115_80 ∧ Aside0 (laws_FnExactMomentsOfNodes.j2 kq t517 x115_80 t497 t518 = some r) ∧ Aside0 (kq ≤ kj49) ∧ Aside0 (Kd.R (Kd.int .i64) 2 wc w.heap.size (fun k_ => some k_ ≠ ((.slice Ao30 t498.length co30) : Value).ownBlock ∧ some k_ ≠ ((.slice Ao96 t527.length co96) : Value).ownBlock) (.slice Ao21 t486.length co21) t486) ∧ Aside0 (Kd.R (Kd.int .i64) 2 wc w.heap.size (fun k_ => some k_ ≠ ((.slice Ao21 t486.length co21) : Value).ownBlock ∧ some k_ ≠ ((.slice Ao96 t527.length co96) : Value).ownBlock) (.slice Ao30 t498.length co30) t518) ∧ Aside0 (Kd.R (Kd.int .i64) 2 wc w.heap.size (fun k_ => some k_ ≠ ((.slice Ao21 t486.length co21) : Value).ownBlock ∧ some k_ ≠ ((.slice Ao30 t498.length co30) : Value).ownBlock) (.slice Ao96 t527.length co96) t527) ∧ Aside0 (wc.heap[gb490]? = some (.cells #[.int .i64 t485, (.slice Ao21 t486.length co21)] 30 (0, 0))) ∧ Aside0 (wc.heap[gb502]? = some (.cells #[.int .i64 t497, (.slice Ao30 t498.length co30)] 30 (0, 0))) ∧ Aside0 (wc.heap[gb531]? = some (.cells #[.int .i64 t526, (.slice Ao96 t527.length co96)] 30 (0, 0))) ∧ Aside0 (Below w.heap.size w wc))
             case first =>
              have H := HC81.out
              clear HC81
              replace H := Option.bind_eq_some_iff.mp H
              obtain ⟨t532, A970, H⟩ := H
              have A97 := as0 A970
              clear A970
              by_cases c98 : t532 = true
              ·
               subst c98
               have H1 : (laws_FnExactMomentsOfNodes.j2 kj49 t517 (t530 != t489) t497 t518) = some r := by rw [if_pos rfl] at H; exact H
               clear H
               have H := H1
               clear H1
               have H' := as0 H
               clear H
               have hnb99 := NB531_490.out
               have hnc99 := NB490_531.out
               have hnb100 := NB531_502.out
               have hnc100 := NB502_531.out
               have hcz101_0 : w92.cell? ⟨gb531, 0, none⟩ = some (.int .i64 0) := (blk_cell BK531.out 0).trans rfl
               have hcz101_1 : w92.cell? ⟨gb531, 1, none⟩ = some (.slice none 0 0) := (blk_cell BK531.out 1).trans rfl
               have hfz101_0 := blk_frozen BK531.out 0
               have hfz101_1 := blk_frozen BK531.out 1
               have hnb102 := NB490_502.out
               have hnc102 := NB502_490.out
               have hcz103_0 : w92.cell? ⟨gb490, 0, none⟩ = some (.int .i64 t485) := (blk_cell BK490.out 0).trans rfl
               have hcz103_1 : w92.cell? ⟨gb490, 1, none⟩ = some (.slice Ao21 t486.length co21) := (blk_cell BK490.out 1).trans rfl
               have hfz103_0 := blk_frozen BK490.out 0
               have hfz103_1 := blk_frozen BK490.out 1
               go_wp2_with (first | ((with_reducible refine gate_callee (f := 13) rfl ?_); refine goesM_ (some 109) rfl rfl Try.func13 #[.agg #[.int .i64 t526, .slice Ao96 t527.length co96], .agg #[.int .i64 t485, .slice Ao21 t486.length co21]] rfl ?_; (with_reducible refine (laws_eqMoments.calls kj49 t526 _ _ t527 t485 _ _ t486 true _ ?side1 ?side2 ?side3 ?side4 A97.out).mono ?_); (case side1 => refine (Kd.R_reads' (e := 2) (base := w.heap.size) (ok := fun k_ => ((((True ∧ some k_ ≠ (.slice Ao21 t486.length co21 : Value).ownBlock) ∧ some k_ ≠ (.slice Ao30 t498.length co30 : Value).ownBlock) ∧ some k_ ≠ (.slice Ao89 t520.length co89 : Value).ownBlock) ∧ some k_ ≠ (.slice Ao90 t523.length co90 : Value).ownBlock)) (n := t527.length) (c := co96) ?_).2.2; exact (by (with_reducible repeat (first | apply Kd.R_alloc | apply Kd.R_drewN | apply Kd.R_drew)); exact (Kd.R_mono (Kd.R_far (p := ⟨gb531, 1, none⟩) (Kd.R_far (p := ⟨gb531, 0, none⟩) (Kd.R_types HO529.out BK531.out (by decide)) (fun _ hk => hk.2) (.int .i64 t526)) (fun _ hk => hk.2) (.slice Ao96 t527.length co96)) (fun _ h_ => h_.1)))); (case side2 => exact (Kd.R_reads' HO529.out).2.1); (case side3 => refine (Kd.R_reads' (e := 2) (base := w.heap.size) (ok := fun k_ => (((some k_ ≠ (.slice Ao30 t498.length co30 : Value).ownBlock ∧ some k_ ≠ (.slice Ao89 t520.length co89 : Value).ownBlock) ∧ some k_ ≠ (.slice Ao90 t523.length co90 : Value).ownBlock) ∧ some k_ ≠ (.slice Ao96 t527.length co96 : Value).ownBlock)) (n := t486.length) (c := co21) ?_).2.2; exact (by (with_reducible repeat (first | apply Kd.R_alloc | apply Kd.R_drewN | apply Kd.R_drew)); exact (Kd.R_mono (Kd.R_far (p := ⟨gb531, 1, none⟩) (Kd.R_far (p := ⟨gb531, 0, none⟩) (Kd.R_types HO_491001.out BK531.out (by decide)) (fun _ hk => hk.2) (.int .i64 t526)) (fun _ hk => hk.2) (.slice Ao96 t527.length co96)) (fun _ h_ => h_.1)))); (case side4 => exact (Kd.R_reads' HO_491001.out).2.1); rintro e w104 ⟨rfl, hb⟩; refine ⟨_, rfl, ?_⟩; have n0_ := as0 (Kd.R_below (by (with_reducible repeat (first | apply Kd.R_alloc | apply Kd.R_drewN | apply Kd.R_drew)); exact (Kd.R_mono (Kd.R_far (p := ⟨gb531, 1, none⟩) (Kd.R_far (p := ⟨gb531, 0, none⟩) (Kd.R_types HO_491001.out BK531.out (by decide)) (fun _ hk => hk.2) (.int .i64 t526)) (fun _ hk => hk.2) (.slice Ao96 t527.length co96)) (fun _ h_ => h_.1))) hb); have n1_ := as0 (Kd.R_below (by (with_reducible repeat (first | apply Kd.R_alloc | apply Kd.R_drewN | apply Kd.R_drew)); exact (Kd.R_mono (Kd.R_far (p := ⟨gb531, 1, none⟩) (Kd.R_far (p := ⟨gb531, 0, none⟩) (Kd.R_types HO_503001.out BK531.out (by decide)) (fun _ hk => hk.2) (.int .i64 t526)) (fun _ hk => hk.2) (.slice Ao96 t527.length co96)) (fun _ h_ => h_.1))) hb); have n2_ := as0 (Kd.R_below (by (with_reducible repeat (first | apply Kd.R_alloc | apply Kd.R_drewN | apply Kd.R_drew)); exact (Kd.R_mono (Kd.R_far (p := ⟨gb531, 1, none⟩) (Kd.R_far (p := ⟨gb531, 0, none⟩) (Kd.R_types HO522.out BK531.out (by decide)) (fun _ hk => hk.2) (.int .i64 t526)) (fun _ hk => hk.2) (.slice Ao96 t527.length co96)) (fun _ h_ => h_.1))) hb); have n3_ := as0 (Kd.R_below (by (with_reducible repeat (first | apply Kd.R_alloc | apply Kd.R_drewN | apply Kd.R_drew)); exact (Kd.R_mono (Kd.R_far (p := ⟨gb531, 1, none⟩) (Kd.R_far (p := ⟨gb531, 0, none⟩) (Kd.R_types HO525.out BK531.out (by decide)) (fun _ hk => hk.2) (.int .i64 t526)) (fun _ hk => hk.2) (.slice Ao96 t527.length co96)) (fun _ h_ => h_.1))) hb); have n4_ := as0 (Kd.R_below (by (with_reducible repeat (first | apply Kd.R_alloc | apply Kd.R_drewN | apply Kd.R_drew)); exact (Kd.R_mono (Kd.R_far (p := ⟨gb531, 1, none⟩) (Kd.R_far (p := ⟨gb531, 0, none⟩) (Kd.R_types HO529.out BK531.out (by decide)) (fun _ hk => hk.2) (.int .i64 t526)) (fun _ hk => hk.2) (.slice Ao96 t527.length co96)) (fun _ h_ => h_.1))) hb); have n5_ := as0 (blk_below (g := gb490) (o := .cells #[.int .i64 t485, .slice Ao21 t486.length co21] 30 (0, 0)) (by (with_reducible repeat (first | refine blk_drewN ?_ _ | refine blk_drew ?_ | refine blk_alloc ?_ _)); refine blk_far ?_ NB490_531.out _; (with_reducible repeat (first | refine blk_drewN ?_ _ | refine blk_drew ?_ | refine blk_alloc ?_ _)); refine blk_far ?_ NB490_531.out _; (with_reducible repeat (first | refine blk_drewN ?_ _ | refine blk_drew ?_ | refine blk_alloc ?_ _)); exact BK490.out) hb); have n6_ := as0 (blk_below (g := gb502) (o := .cells #[.int .i64 t497, .slice Ao30 t498.length co30] 30 (0, 0)) (by (with_reducible repeat (first | refine blk_drewN ?_ _ | refine blk_drew ?_ | refine blk_alloc ?_ _)); refine blk_far ?_ NB502_531.out _; (with_reducible repeat (first | refine blk_drewN ?_ _ | refine blk_drew ?_ | refine blk_alloc ?_ _)); refine blk_far ?_ NB502_531.out _; (with_reducible repeat (first | refine blk_drewN ?_ _ | refine blk_drew ?_ | refine blk_alloc ?_ _)); exact BK502.out) hb); have n7_ := as0 (blk_below (g := gb531) (o := .cells #[.int .i64 t526, .slice Ao96 t527.length co96] 30 (0, 0)) (by (with_reducible repeat (first | refine blk_drewN ?_ _ | refine blk_drew ?_ | refine blk_alloc ?_ _)); refine blk_put (cs := #[.int .i64 t526, .slice none 0 0]) ?_ 1 _ rfl; (with_reducible repeat (first | refine blk_drewN ?_ _ | refine blk_drew ?_ | refine blk_alloc ?_ _)); refine blk_put (cs := #[.int .i64 0, .slice none 0 0]) ?_ 0 _ rfl; (with_reducible repeat (first | refine blk_drewN ?_ _ | refine blk_drew ?_ | refine blk_alloc ?_ _)); exact BK531.out) hb); have n8_ := as0 (below_step (by repeat (first | (with_reducible first | exact HB.out | apply below_alloc | apply pw_below_drewN | apply below_drew1 | refine below_set ?_ GE490.out | refine below_set ?_ GE502.out | refine below_set ?_ GE531.out) | exact HB.out)) hb); clear HO_491001; clear HO_503001; clear HO522; clear HO525; clear HO529; clear BK490; clear BK502; clear BK531; clear HB; have HO_491001 := n0_; have HO_503001 := n1_; have HO522 := n2_; have HO525 := n3_; have HO529 := n4_; have BK490 := n5_; have BK502 := n6_; have BK531 := n7_; have HB := n8_; clear n0_ n1_ n2_ n3_ n4_ n5_ n6_ n7_ n8_; (try clear hb); (try clear hb2); (try clear hk); (try clear hi)))
               go_meet
               case rel => exact ⟨_, ((t530 != t489)), ea_, H', ⟨by have := HJ12.out; have := HJ49.out; first | omega | exact Nat.le_refl _⟩, ⟨by (with_reducible repeat (first | apply Kd.R_alloc | apply Kd.R_drewN | apply Kd.R_drew)); exact Kd.R_mono HO_491001.out (fun _ hk => ⟨hk.1.1.1, hk.2⟩)⟩, ⟨by (with_reducible repeat (first | apply Kd.R_alloc | apply Kd.R_drewN | apply Kd.R_drew)); exact Kd.R_mono HO_503001.out (fun _ hk => ⟨hk.1.1.1, hk.2⟩)⟩, ⟨by (with_reducible repeat (first | apply Kd.R_alloc | apply Kd.R_drewN | apply Kd.R_drew)); exact Kd.R_mono HO529.out (fun _ hk => ⟨hk.1.1.1.2, hk.1.1.2⟩)⟩, ⟨by (with_reducible repeat (first | refine blk_drewN ?_ _ | refine blk_drew ?_ | refine blk_alloc ?_ _)); exact BK490.out⟩, ⟨by (with_reducible repeat (first | refine blk_drewN ?_ _ | refine blk_drew ?_ | refine blk_alloc ?_ _)); exact BK502.out⟩, ⟨by (with_reducible repeat (first | refine blk_drewN ?_ _ | refine blk_drew ?_ | refine blk_alloc ?_ _)); exact BK531.out⟩, ⟨by repeat (first | (with_reducible first | exact HB.out | apply below_alloc | apply pw_below_drewN | apply below_drew1 | refine below_set ?_ GE490.out | refine below_set ?_ GE502.out | refine below_set ?_ GE531.out) | exact HB.out)⟩⟩
              ·
               replace c98 := Bool.eq_false_iff.mpr c98
               subst c98
               have H1 : (laws_FnExactMomentsOfNodes.j2 kj49 t517 true t497 t518) = some r := by rw [if_neg (show ¬ (false = true) by decide)] at H; exact H
               clear H
               have H := H1
               clear H1
               have H' := as0 H
               clear H
               have hnb105 := NB531_490.out
               have hnc105 := NB490_531.out
               have hnb106 := NB531_502.out
               have hnc106 := NB502_531.out
               have hcz107_0 : w92.cell? ⟨gb531, 0, none⟩ = some (.int .i64 0) := (blk_cell BK531.out 0).trans rfl
               have hcz107_1 : w92.cell? ⟨gb531, 1, none⟩ = some (.slice none 0 0) := (blk_cell BK531.out 1).trans rfl
               have hfz107_0 := blk_frozen BK531.out 0
               have hfz107_1 := blk_frozen BK531.out 1
               have hnb108 := NB490_502.out
               have hnc108 := NB502_490.out
               have hcz109_0 : w92.cell? ⟨gb490, 0, none⟩ = some (.int .i64 t485) := (blk_cell BK490.out 0).trans rfl
               have hcz109_1 : w92.cell? ⟨gb490, 1, none⟩ = some (.slice Ao21 t486.length co21) := (blk_cell BK490.out 1).trans rfl
               have hfz109_0 := blk_frozen BK490.out 0
               have hfz109_1 := blk_frozen BK490.out 1
               go_wp2_with (first | ((with_reducible refine gate_callee (f := 13) rfl ?_); refine goesM_ (some 109) rfl rfl Try.func13 #[.agg #[.int .i64 t526, .slice Ao96 t527.length co96], .agg #[.int .i64 t485, .slice Ao21 t486.length co21]] rfl ?_; (with_reducible refine (laws_eqMoments.calls kj49 t526 _ _ t527 t485 _ _ t486 false _ ?side1 ?side2 ?side3 ?side4 A97.out).mono ?_); (case side1 => refine (Kd.R_reads' (e := 2) (base := w.heap.size) (ok := fun k_ => ((((True ∧ some k_ ≠ (.slice Ao21 t486.length co21 : Value).ownBlock) ∧ some k_ ≠ (.slice Ao30 t498.length co30 : Value).ownBlock) ∧ some k_ ≠ (.slice Ao89 t520.length co89 : Value).ownBlock) ∧ some k_ ≠ (.slice Ao90 t523.length co90 : Value).ownBlock)) (n := t527.length) (c := co96) ?_).2.2; exact (by (with_reducible repeat (first | apply Kd.R_alloc | apply Kd.R_drewN | apply Kd.R_drew)); exact (Kd.R_mono (Kd.R_far (p := ⟨gb531, 1, none⟩) (Kd.R_far (p := ⟨gb531, 0, none⟩) (Kd.R_types HO529.out BK531.out (by decide)) (fun _ hk => hk.2) (.int .i64 t526)) (fun _ hk => hk.2) (.slice Ao96 t527.length co96)) (fun _ h_ => h_.1)))); (case side2 => exact (Kd.R_reads' HO529.out).2.1); (case side3 => refine (Kd.R_reads' (e := 2) (base := w.heap.size) (ok := fun k_ => (((some k_ ≠ (.slice Ao30 t498.length co30 : Value).ownBlock ∧ some k_ ≠ (.slice Ao89 t520.length co89 : Value).ownBlock) ∧ some k_ ≠ (.slice Ao90 t523.length co90 : Value).ownBlock) ∧ some k_ ≠ (.slice Ao96 t527.length co96 : Value).ownBlock)) (n := t486.length) (c := co21) ?_).2.2; exact (by (with_reducible repeat (first | apply Kd.R_alloc | apply Kd.R_drewN | apply Kd.R_drew)); exact (Kd.R_mono (Kd.R_far (p := ⟨gb531, 1, none⟩) (Kd.R_far (p := ⟨gb531, 0, none⟩) (Kd.R_types HO_491001.out BK531.out (by decide)) (fun _ hk => hk.2) (.int .i64 t526)) (fun _ hk => hk.2) (.slice Ao96 t527.length co96)) (fun _ h_ => h_.1)))); (case side4 => exact (Kd.R_reads' HO_491001.out).2.1); rintro e w110 ⟨rfl, hb⟩; refine ⟨_, rfl, ?_⟩; have n0_ := as0 (Kd.R_below (by (with_reducible repeat (first | apply Kd.R_alloc | apply Kd.R_drewN | apply Kd.R_drew)); exact (Kd.R_mono (Kd.R_far (p := ⟨gb531, 1, none⟩) (Kd.R_far (p := ⟨gb531, 0, none⟩) (Kd.R_types HO_491001.out BK531.out (by decide)) (fun _ hk => hk.2) (.int .i64 t526)) (fun _ hk => hk.2) (.slice Ao96 t527.length co96)) (fun _ h_ => h_.1))) hb); have n1_ := as0 (Kd.R_below (by (with_reducible repeat (first | apply Kd.R_alloc | apply Kd.R_drewN | apply Kd.R_drew)); exact (Kd.R_mono (Kd.R_far (p := ⟨gb531, 1, none⟩) (Kd.R_far (p := ⟨gb531, 0, none⟩) (Kd.R_types HO_503001.out BK531.out (by decide)) (fun _ hk => hk.2) (.int .i64 t526)) (fun _ hk => hk.2) (.slice Ao96 t527.length co96)) (fun _ h_ => h_.1))) hb); have n2_ := as0 (Kd.R_below (by (with_reducible repeat (first | apply Kd.R_alloc | apply Kd.R_drewN | apply Kd.R_drew)); exact (Kd.R_mono (Kd.R_far (p := ⟨gb531, 1, none⟩) (Kd.R_far (p := ⟨gb531, 0, none⟩) (Kd.R_types HO522.out BK531.out (by decide)) (fun _ hk => hk.2) (.int .i64 t526)) (fun _ hk => hk.2) (.slice Ao96 t527.length co96)) (fun _ h_ => h_.1))) hb); have n3_ := as0 (Kd.R_below (by (with_reducible repeat (first | apply Kd.R_alloc | apply Kd.R_drewN | apply Kd.R_drew)); exact (Kd.R_mono (Kd.R_far (p := ⟨gb531, 1, none⟩) (Kd.R_far (p := ⟨gb531, 0, none⟩) (Kd.R_types HO525.out BK531.out (by decide)) (fun _ hk => hk.2) (.int .i64 t526)) (fun _ hk => hk.2) (.slice Ao96 t527.length co96)) (fun _ h_ => h_.1))) hb); have n4_ := as0 (Kd.R_below (by (with_reducible repeat (first | apply Kd.R_alloc | apply Kd.R_drewN | apply Kd.R_drew)); exact (Kd.R_mono (Kd.R_far (p := ⟨gb531, 1, none⟩) (Kd.R_far (p := ⟨gb531, 0, none⟩) (Kd.R_types HO529.out BK531.out (by decide)) (fun _ hk => hk.2) (.int .i64 t526)) (fun _ hk => hk.2) (.slice Ao96 t527.length co96)) (fun _ h_ => h_.1))) hb); have n5_ := as0 (blk_below (g := gb490) (o := .cells #[.int .i64 t485, .slice Ao21 t486.length co21] 30 (0, 0)) (by (with_reducible repeat (first | refine blk_drewN ?_ _ | refine blk_drew ?_ | refine blk_alloc ?_ _)); refine blk_far ?_ NB490_531.out _; (with_reducible repeat (first | refine blk_drewN ?_ _ | refine blk_drew ?_ | refine blk_alloc ?_ _)); refine blk_far ?_ NB490_531.out _; (with_reducible repeat (first | refine blk_drewN ?_ _ | refine blk_drew ?_ | refine blk_alloc ?_ _)); exact BK490.out) hb); have n6_ := as0 (blk_below (g := gb502) (o := .cells #[.int .i64 t497, .slice Ao30 t498.length co30] 30 (0, 0)) (by (with_reducible repeat (first | refine blk_drewN ?_ _ | refine blk_drew ?_ | refine blk_alloc ?_ _)); refine blk_far ?_ NB502_531.out _; (with_reducible repeat (first | refine blk_drewN ?_ _ | refine blk_drew ?_ | refine blk_alloc ?_ _)); refine blk_far ?_ NB502_531.out _; (with_reducible repeat (first | refine blk_drewN ?_ _ | refine blk_drew ?_ | refine blk_alloc ?_ _)); exact BK502.out) hb); have n7_ := as0 (blk_below (g := gb531) (o := .cells #[.int .i64 t526, .slice Ao96 t527.length co96] 30 (0, 0)) (by (with_reducible repeat (first | refine blk_drewN ?_ _ | refine blk_drew ?_ | refine blk_alloc ?_ _)); refine blk_put (cs := #[.int .i64 t526, .slice none 0 0]) ?_ 1 _ rfl; (with_reducible repeat (first | refine blk_drewN ?_ _ | refine blk_drew ?_ | refine blk_alloc ?_ _)); refine blk_put (cs := #[.int .i64 0, .slice none 0 0]) ?_ 0 _ rfl; (with_reducible repeat (first | refine blk_drewN ?_ _ | refine blk_drew ?_ | refine blk_alloc ?_ _)); exact BK531.out) hb); have n8_ := as0 (below_step (by repeat (first | (with_reducible first | exact HB.out | apply below_alloc | apply pw_below_drewN | apply below_drew1 | refine below_set ?_ GE490.out | refine below_set ?_ GE502.out | refine below_set ?_ GE531.out) | exact HB.out)) hb); clear HO_491001; clear HO_503001; clear HO522; clear HO525; clear HO529; clear BK490; clear BK502; clear BK531; clear HB; have HO_491001 := n0_; have HO_503001 := n1_; have HO522 := n2_; have HO525 := n3_; have HO529 := n4_; have BK490 := n5_; have BK502 := n6_; have BK531 := n7_; have HB := n8_; clear n0_ n1_ n2_ n3_ n4_ n5_ n6_ n7_ n8_; (try clear hb); (try clear hb2); (try clear hk); (try clear hi)))
               go_meet
               case rel => exact ⟨_, (true), ea_, H', ⟨by have := HJ12.out; have := HJ49.out; first | omega | exact Nat.le_refl _⟩, ⟨by (with_reducible repeat (first | apply Kd.R_alloc | apply Kd.R_drewN | apply Kd.R_drew)); exact Kd.R_mono HO_491001.out (fun _ hk => ⟨hk.1.1.1, hk.2⟩)⟩, ⟨by (with_reducible repeat (first | apply Kd.R_alloc | apply Kd.R_drewN | apply Kd.R_drew)); exact Kd.R_mono HO_503001.out (fun _ hk => ⟨hk.1.1.1, hk.2⟩)⟩, ⟨by (with_reducible repeat (first | apply Kd.R_alloc | apply Kd.R_drewN | apply Kd.R_drew)); exact Kd.R_mono HO529.out (fun _ hk => ⟨hk.1.1.1.2, hk.1.1.2⟩)⟩, ⟨by (with_reducible repeat (first | refine blk_drewN ?_ _ | refine blk_drew ?_ | refine blk_alloc ?_ _)); exact BK490.out⟩, ⟨by (with_reducible repeat (first | refine blk_drewN ?_ _ | refine blk_drew ?_ | refine blk_alloc ?_ _)); exact BK502.out⟩, ⟨by (with_reducible repeat (first | refine blk_drewN ?_ _ | refine blk_drew ?_ | refine blk_alloc ?_ _)); exact BK531.out⟩, ⟨by repeat (first | (with_reducible first | exact HB.out | apply below_alloc | apply pw_below_drewN | apply below_drew1 | refine below_set ?_ GE490.out | refine below_set ?_ GE502.out | refine below_set ?_ GE531.out) | exact HB.out)⟩⟩
             case rest =>
              clear HC81
              try clear c1
              try clear c2
              try clear p2
              try clear c3
              try clear c4
              try clear c5
              try clear c5b0
              try clear c5b1
              try clear c6
              try clear c6b0
              try clear c6b1
              try clear c7
              try clear c8
              try clear c9
              try clear c10
              try clear c11
              try clear c12
              try clear c13
              try clear c14
              try clear c15
              try clear c28
              try clear c32
              try clear c33
              try clear c37
              try clear c41
              try clear c44
              try clear c47
              try clear c57
              try clear c57b0
              try clear c59
              try clear c60
              try clear c64
              try clear c68
              try clear c71
              try clear c71b0
              try clear c72
              try clear c77
              try clear c77b0
              try clear c77b1
              try clear c82
              try clear c93
              try clear c94
              try clear c98
              try clear c99
              try clear c100
              try clear c102
              try clear c105
              try clear c106
              try clear c108
              try clear hcz101_0
              try clear hcz101_1
              try clear hcz103_0
              try clear hcz103_1
              try clear hcz107_0
              try clear hcz107_1
              try clear hcz109_0
              try clear hcz109_1
              try clear hcz20_0
              try clear hcz20_1
              try clear hcz29_0
              try clear hcz29_1
              try clear hcz34_0
              try clear hcz34_1
              try clear hcz35_0
              try clear hcz35_1
              try clear hcz38_0
              try clear hcz38_1
              try clear hcz39_0
              try clear hcz39_1
              try clear hcz61_0
              try clear hcz61_1
              try clear hcz62_0
              try clear hcz62_1
              try clear hcz65_0
              try clear hcz65_1
              try clear hcz66_0
              try clear hcz66_1
              try clear hcz73_0
              try clear hcz73_1
              try clear hcz75_0
              try clear hcz75_1
              try clear hcz83_0
              try clear hcz83_1
              try clear hcz85_0
              try clear hcz85_1
              try clear hcz95_0
              try clear hcz95_1
              try clear hfz101_0
              try clear hfz101_1
              try clear hfz103_0
              try clear hfz103_1
              try clear hfz107_0
              try clear hfz107_1
              try clear hfz109_0
              try clear hfz109_1
              try clear hfz20_0
              try clear hfz20_1
              try clear hfz29_0
              try clear hfz29_1
              try clear hfz34_0
              try clear hfz34_1
              try clear hfz35_0
              try clear hfz35_1
              try clear hfz38_0
              try clear hfz38_1
              try clear hfz39_0
              try clear hfz39_1
              try clear hfz61_0
              try clear hfz61_1
              try clear hfz62_0
              try clear hfz62_1
              try clear hfz65_0
              try clear hfz65_1
              try clear hfz66_0
              try clear hfz66_1
              try clear hfz73_0
              try clear hfz73_1
              try clear hfz75_0
              try clear hfz75_1
              try clear hfz83_0
              try clear hfz83_1
              try clear hfz85_0
              try clear hfz85_1
              try clear hfz95_0
              try clear hfz95_1
              try clear p2
              obtain ⟨kq, x115_80, rfl, HA, HJ80, HO_491001, HO_503001, HO_532001, BK490, BK502, BK531, HB⟩ := hcut
              have hl503001_80 := (Kd.R_reads' HO_503001.out).1
              rw [hl503001_80] at HO_503001
              (try simp only [hl503001_80])
              (try simp only [hl503001_80] at BK490)
              (try simp only [hl503001_80] at BK502)
              (try simp only [hl503001_80] at BK531)
              (try simp only [hl503001_80] at HO_491001)
              (try simp only [hl503001_80] at HO_532001)
              cases kq with
              | zero => exact absurd HA.out (by simp [laws_FnExactMomentsOfNodes.j2])
              | succ kj80 =>
               have H := HA.out
               clear HA
               simp only [laws_FnExactMomentsOfNodes.j2] at H
               by_cases c111 : x115_80 = true
               ·
                subst c111
                have H1 : (some false) = some r := by rw [if_pos rfl] at H; exact H
                clear H
                have H := H1
                clear H1
                obtain rfl := Option.some.inj H
                go_wp2
                go_ret
                exact ⟨er_, by repeat (first | (with_reducible first | exact HB.out | apply below_alloc | apply pw_below_drewN | apply below_drew1 | refine below_set ?_ GE490.out | refine below_set ?_ GE502.out | refine below_set ?_ GE531.out) | exact HB.out)⟩
               ·
                replace c111 := Bool.eq_false_iff.mpr c111
                subst c111
                have H1 : ((laws_heldMoments.f kj80 t497 t518 1).bind fun t533 => (if t533 < 0 then (some false) else (if t533 = t517 then (some true) else (some false)))) = some r := by rw [if_neg (show ¬ (false = true) by decide)] at H; exact H
                clear H
                have H := H1
                clear H1
                replace H := Option.bind_eq_some_iff.mp H
                obtain ⟨t533, A1120, H⟩ := H
                have A112 := as0 A1120
                clear A1120
                by_cases c113 : t533 < 0
                ·
                 rw [if_pos c113] at H
                 have c113b0 : decide (t533 < 0) = true := decide_eq_true c113
                 clear c113
                 obtain rfl := Option.some.inj H
                 have hnb114 := NB502_490.out
                 have hnc114 := NB490_502.out
                 have hnb115 := NB502_531.out
                 have hnc115 := NB531_502.out
                 have hcz116_0 : wc.cell? ⟨gb502, 0, none⟩ = some (.int .i64 t497) := (blk_cell BK502.out 0).trans rfl
                 have hcz116_1 : wc.cell? ⟨gb502, 1, none⟩ = some (.slice Ao30 t518.length co30) := (blk_cell BK502.out 1).trans rfl
                 have hfz116_0 := blk_frozen BK502.out 0
                 have hfz116_1 := blk_frozen BK502.out 1
                 go_wp2_with (first | ((with_reducible refine gate_callee (f := 15) rfl ?_); refine goesM_ (some 118) rfl rfl Try.func15 #[.agg #[.int .i64 t497, .slice Ao30 t518.length co30], .int .i64 1] rfl ?_; (with_reducible refine (laws_heldMoments.calls kj80 t497 _ _ t518 1 t533 _ ?side1 ?side2 A112.out).mono ?_); (case side1 => exact cs ((Kd.R_reads' HO_503001.out).2.2)); (case side2 => exact (Kd.R_reads' HO_503001.out).2.1); rintro e w117 ⟨rfl, hb⟩; refine ⟨_, rfl, ?_⟩; have n0_ := as0 (Kd.R_below (rs HO_491001) hb); have n1_ := as0 (Kd.R_below (rs HO_503001) hb); have n2_ := as0 (Kd.R_below (rs HO_532001) hb); have n3_ := as0 (blk_below (g := gb490) (o := .cells #[.int .i64 t485, .slice Ao21 t486.length co21] 30 (0, 0)) (by (with_reducible repeat (first | refine blk_drewN ?_ _ | refine blk_drew ?_ | refine blk_alloc ?_ _)); exact BK490.out) hb); have n4_ := as0 (blk_below (g := gb502) (o := .cells #[.int .i64 t497, .slice Ao30 t518.length co30] 30 (0, 0)) (by (with_reducible repeat (first | refine blk_drewN ?_ _ | refine blk_drew ?_ | refine blk_alloc ?_ _)); exact BK502.out) hb); have n5_ := as0 (blk_below (g := gb531) (o := .cells #[.int .i64 t526, .slice Ao96 t527.length co96] 30 (0, 0)) (by (with_reducible repeat (first | refine blk_drewN ?_ _ | refine blk_drew ?_ | refine blk_alloc ?_ _)); exact BK531.out) hb); have n6_ := as0 (below_step (by repeat (first | (with_reducible first | exact HB.out | apply below_alloc | apply pw_below_drewN | apply below_drew1 | refine below_set ?_ GE490.out | refine below_set ?_ GE502.out | refine below_set ?_ GE531.out) | exact HB.out)) hb); clear HO_491001; clear HO_503001; clear HO_532001; clear BK490; clear BK502; clear BK531; clear HB; have HO_491001 := n0_; have HO_503001 := n1_; have HO_532001 := n2_; have BK490 := n3_; have BK502 := n4_; have BK531 := n5_; have HB := n6_; clear n0_ n1_ n2_ n3_ n4_ n5_ n6_; (try clear hb); (try clear hb2); (try clear hk); (try clear hi)))
                 go_ret
                 exact ⟨er_, by repeat (first | (with_reducible first | exact HB.out | apply below_alloc | apply pw_below_drewN | apply below_drew1 | refine below_set ?_ GE490.out | refine below_set ?_ GE502.out | refine below_set ?_ GE531.out) | exact HB.out)⟩
                ·
                 rw [if_neg c113] at H
                 have c113b0 : decide (t533 < 0) = false := decide_eq_false c113
                 clear c113
                 by_cases c118 : t533 = t517
                 ·
                  rw [if_pos c118] at H
                  have c118b0 : (t533 == t517) = true := beq_iff_eq.mpr c118
                  have c118b1 : (t533 != t517) = false := bne_eq_false_iff_eq.mpr c118
                  clear c118
                  obtain rfl := Option.some.inj H
                  have hnb119 := NB502_490.out
                  have hnc119 := NB490_502.out
                  have hnb120 := NB502_531.out
                  have hnc120 := NB531_502.out
                  have hcz121_0 : wc.cell? ⟨gb502, 0, none⟩ = some (.int .i64 t497) := (blk_cell BK502.out 0).trans rfl
                  have hcz121_1 : wc.cell? ⟨gb502, 1, none⟩ = some (.slice Ao30 t518.length co30) := (blk_cell BK502.out 1).trans rfl
                  have hfz121_0 := blk_frozen BK502.out 0
                  have hfz121_1 := blk_frozen BK502.out 1
                  go_wp2_with (first | ((with_reducible refine gate_callee (f := 15) rfl ?_); refine goesM_ (some 118) rfl rfl Try.func15 #[.agg #[.int .i64 t497, .slice Ao30 t518.length co30], .int .i64 1] rfl ?_; (with_reducible refine (laws_heldMoments.calls kj80 t497 _ _ t518 1 t533 _ ?side1 ?side2 A112.out).mono ?_); (case side1 => exact cs ((Kd.R_reads' HO_503001.out).2.2)); (case side2 => exact (Kd.R_reads' HO_503001.out).2.1); rintro e w122 ⟨rfl, hb⟩; refine ⟨_, rfl, ?_⟩; have n0_ := as0 (Kd.R_below (rs HO_491001) hb); have n1_ := as0 (Kd.R_below (rs HO_503001) hb); have n2_ := as0 (Kd.R_below (rs HO_532001) hb); have n3_ := as0 (blk_below (g := gb490) (o := .cells #[.int .i64 t485, .slice Ao21 t486.length co21] 30 (0, 0)) (by (with_reducible repeat (first | refine blk_drewN ?_ _ | refine blk_drew ?_ | refine blk_alloc ?_ _)); exact BK490.out) hb); have n4_ := as0 (blk_below (g := gb502) (o := .cells #[.int .i64 t497, .slice Ao30 t518.length co30] 30 (0, 0)) (by (with_reducible repeat (first | refine blk_drewN ?_ _ | refine blk_drew ?_ | refine blk_alloc ?_ _)); exact BK502.out) hb); have n5_ := as0 (blk_below (g := gb531) (o := .cells #[.int .i64 t526, .slice Ao96 t527.length co96] 30 (0, 0)) (by (with_reducible repeat (first | refine blk_drewN ?_ _ | refine blk_drew ?_ | refine blk_alloc ?_ _)); exact BK531.out) hb); have n6_ := as0 (below_step (by repeat (first | (with_reducible first | exact HB.out | apply below_alloc | apply pw_below_drewN | apply below_drew1 | refine below_set ?_ GE490.out | refine below_set ?_ GE502.out | refine below_set ?_ GE531.out) | exact HB.out)) hb); clear HO_491001; clear HO_503001; clear HO_532001; clear BK490; clear BK502; clear BK531; clear HB; have HO_491001 := n0_; have HO_503001 := n1_; have HO_532001 := n2_; have BK490 := n3_; have BK502 := n4_; have BK531 := n5_; have HB := n6_; clear n0_ n1_ n2_ n3_ n4_ n5_ n6_; (try clear hb); (try clear hb2); (try clear hk); (try clear hi)))
                  go_ret
                  exact ⟨er_, by repeat (first | (with_reducible first | exact HB.out | apply below_alloc | apply pw_below_drewN | apply below_drew1 | refine below_set ?_ GE490.out | refine below_set ?_ GE502.out | refine below_set ?_ GE531.out) | exact HB.out)⟩
                 ·
                  rw [if_neg c118] at H
                  have c118b0 : (t533 == t517) = false := beq_eq_false_iff_ne.mpr c118
                  have c118b1 : (t533 != t517) = true := bne_iff_ne.mpr c118
                  obtain rfl := Option.some.inj H
                  have hnb123 := NB502_490.out
                  have hnc123 := NB490_502.out
                  have hnb124 := NB502_531.out
                  have hnc124 := NB531_502.out
                  have hcz125_0 : wc.cell? ⟨gb502, 0, none⟩ = some (.int .i64 t497) := (blk_cell BK502.out 0).trans rfl
                  have hcz125_1 : wc.cell? ⟨gb502, 1, none⟩ = some (.slice Ao30 t518.length co30) := (blk_cell BK502.out 1).trans rfl
                  have hfz125_0 := blk_frozen BK502.out 0
                  have hfz125_1 := blk_frozen BK502.out 1
                  go_wp2_with (first | ((with_reducible refine gate_callee (f := 15) rfl ?_); refine goesM_ (some 118) rfl rfl Try.func15 #[.agg #[.int .i64 t497, .slice Ao30 t518.length co30], .int .i64 1] rfl ?_; (with_reducible refine (laws_heldMoments.calls kj80 t497 _ _ t518 1 t533 _ ?side1 ?side2 A112.out).mono ?_); (case side1 => exact cs ((Kd.R_reads' HO_503001.out).2.2)); (case side2 => exact (Kd.R_reads' HO_503001.out).2.1); rintro e w126 ⟨rfl, hb⟩; refine ⟨_, rfl, ?_⟩; have n0_ := as0 (Kd.R_below (rs HO_491001) hb); have n1_ := as0 (Kd.R_below (rs HO_503001) hb); have n2_ := as0 (Kd.R_below (rs HO_532001) hb); have n3_ := as0 (blk_below (g := gb490) (o := .cells #[.int .i64 t485, .slice Ao21 t486.length co21] 30 (0, 0)) (by (with_reducible repeat (first | refine blk_drewN ?_ _ | refine blk_drew ?_ | refine blk_alloc ?_ _)); exact BK490.out) hb); have n4_ := as0 (blk_below (g := gb502) (o := .cells #[.int .i64 t497, .slice Ao30 t518.length co30] 30 (0, 0)) (by (with_reducible repeat (first | refine blk_drewN ?_ _ | refine blk_drew ?_ | refine blk_alloc ?_ _)); exact BK502.out) hb); have n5_ := as0 (blk_below (g := gb531) (o := .cells #[.int .i64 t526, .slice Ao96 t527.length co96] 30 (0, 0)) (by (with_reducible repeat (first | refine blk_drewN ?_ _ | refine blk_drew ?_ | refine blk_alloc ?_ _)); exact BK531.out) hb); have n6_ := as0 (below_step (by repeat (first | (with_reducible first | exact HB.out | apply below_alloc | apply pw_below_drewN | apply below_drew1 | refine below_set ?_ GE490.out | refine below_set ?_ GE502.out | refine below_set ?_ GE531.out) | exact HB.out)) hb); clear HO_491001; clear HO_503001; clear HO_532001; clear BK490; clear BK502; clear BK531; clear HB; have HO_491001 := n0_; have HO_503001 := n1_; have HO_532001 := n2_; have BK490 := n3_; have BK502 := n4_; have BK531 := n5_; have HB := n6_; clear n0_ n1_ n2_ n3_ n4_ n5_ n6_; (try clear hb); (try clear hb2); (try clear hk); (try clear hi)))
                  go_ret
                  exact ⟨er_, by repeat (first | (with_reducible first | exact HB.out | apply below_alloc | apply pw_below_drewN | apply below_drew1 | refine below_set ?_ GE490.out | refine below_set ?_ GE502.out | refine below_set ?_ GE531.out) | exact HB.out)⟩
            ·
             rw [if_neg c77] at H
             have c77b0 : (t519 == t517) = false := beq_eq_false_iff_ne.mpr c77
             have c77b1 : (t519 != t517) = true := bne_iff_ne.mpr c77
             obtain rfl := Option.some.inj H
             have hnb127 := NB502_490.out
             have hnc127 := NB490_502.out
             have hcz128_0 : wc.cell? ⟨gb502, 0, none⟩ = some (.int .i64 t497) := (blk_cell BK502.out 0).trans rfl
             have hcz128_1 : wc.cell? ⟨gb502, 1, none⟩ = some (.slice Ao30 t498.length co30) := (blk_cell BK502.out 1).trans rfl
             have hfz128_0 := blk_frozen BK502.out 0
             have hfz128_1 := blk_frozen BK502.out 1
             go_wp2_with (first | ((with_reducible refine gate_callee (f := 14) rfl ?_); refine goesM_ (some 88) rfl rfl Try.func14 #[.agg #[.int .i64 t497, .slice Ao30 t498.length co30], .int .i64 1] rfl ?_; (with_reducible refine (laws_markMoments.calls kj49 t497 (fun k_ => some k_ = (.slice Ao30 t498.length co30 : Value).ownBlock) (.slice Ao30 t498.length co30) t498 1 t517 t518 w _ ?side1 ?side2 A69.out).mono ?_); (case side1 => repeat (first | (with_reducible first | exact HB.out | apply below_alloc | apply pw_below_drewN | apply below_drew1 | refine below_set ?_ GE490.out | refine below_set ?_ GE502.out) | exact HB.out)); (case side2 => exact Kd.R_tight rfl HO_503001.out); rintro e w129 ⟨rfl, hy0, hb, hkp⟩; refine ⟨_, rfl, ?_⟩; have n0_ := as0 (Kd.R_mono (ok' := fun k_ => some k_ ≠ (.slice Ao30 t498.length co30 : Value).ownBlock) (Kd.R_keptB (HO_491001.out) hkp (fun k_ hk_ hs_ => (hk_) hs_)) (fun k_ hk_ => hk_.1)); have n1_ := as0 (Kd.R_reok rfl hy0 (fun k_ e_ => HO_503001.out.1 k_ e_)); have n2_ := as0 (blk_kept (by (with_reducible repeat (first | refine blk_drewN ?_ _ | refine blk_drew ?_ | refine blk_alloc ?_ _)); exact BK490.out) hkp (fun hs_ => (fun e_ => (Kd.R_ne HO_503001.out BK490.out (by decide)) e_) hs_)); have n3_ := as0 (blk_kept (by (with_reducible repeat (first | refine blk_drewN ?_ _ | refine blk_drew ?_ | refine blk_alloc ?_ _)); exact BK502.out) hkp (fun hs_ => (fun e_ => (Kd.R_ne HO_503001.out BK502.out (by decide)) e_) hs_)); have n4_ := as0 (hb); clear HO_491001; clear HO_503001; clear BK490; clear BK502; clear HB; have HO_491001 := n0_; have HO_503001 := n1_; have BK490 := n2_; have BK502 := n3_; have HB := n4_; clear n0_ n1_ n2_ n3_ n4_; (try clear hb); (try clear hkp); (try clear hy0); have hcz130_0 : w129.cell? ⟨gb502, 0, none⟩ = some (.int .i64 t497) := (blk_cell BK502.out 0).trans rfl; have hcz130_1 : w129.cell? ⟨gb502, 1, none⟩ = some (.slice Ao30 t498.length co30) := (blk_cell BK502.out 1).trans rfl; have hfz130_0 := blk_frozen BK502.out 0; have hfz130_1 := blk_frozen BK502.out 1) | ((with_reducible refine gate_callee (f := 15) rfl ?_); refine goesL_ (some 91) rfl rfl Try.func15 (by kernel_rfl) rfl #[.agg #[.int .i64 t497, .slice Ao30 t518.length co30], .int .i64 1] rfl (by (try simp only [List.map_toArray, List.map_cons, List.map_nil]); first | done | (rw [show t518.length = t498.length from (Kd.R_reads' HO_503001.out).1.symm] <;> rfl) | rfl | (simp only [List.length_drop, List.length_take]; rfl)) ?_; (with_reducible refine (laws_heldMoments.calls kj49 t497 _ _ t518 1 t519 _ ?side1 ?side2 A70.out).mono ?_); (case side1 => exact cs ((Kd.R_reads' HO_503001.out).2.2)); (case side2 => rw [show t518.length = t498.length from (Kd.R_reads' HO_503001.out).1.symm]; exact (Kd.R_reads' HO_503001.out).2.1); rintro e w131 ⟨rfl, hb⟩; refine ⟨_, rfl, ?_⟩; have n0_ := as0 (Kd.R_below (rs HO_491001) hb); have n1_ := as0 (Kd.R_below (rs HO_503001) hb); have n2_ := as0 (blk_below (g := gb490) (o := .cells #[.int .i64 t485, .slice Ao21 t486.length co21] 30 (0, 0)) (by (with_reducible repeat (first | refine blk_drewN ?_ _ | refine blk_drew ?_ | refine blk_alloc ?_ _)); exact BK490.out) hb); have n3_ := as0 (blk_below (g := gb502) (o := .cells #[.int .i64 t497, .slice Ao30 t498.length co30] 30 (0, 0)) (by (with_reducible repeat (first | refine blk_drewN ?_ _ | refine blk_drew ?_ | refine blk_alloc ?_ _)); exact BK502.out) hb); have n4_ := as0 (below_step (by repeat (first | (with_reducible first | exact HB.out | apply below_alloc | apply pw_below_drewN | apply below_drew1 | refine below_set ?_ GE490.out | refine below_set ?_ GE502.out) | exact HB.out)) hb); clear HO_491001; clear HO_503001; clear BK490; clear BK502; clear HB; have HO_491001 := n0_; have HO_503001 := n1_; have BK490 := n2_; have BK502 := n3_; have HB := n4_; clear n0_ n1_ n2_ n3_ n4_; (try clear hb); (try clear hb2); (try clear hk); (try clear hi)))
             go_ret
             exact ⟨er_, by repeat (first | (with_reducible first | exact HB.out | apply below_alloc | apply pw_below_drewN | apply below_drew1 | refine below_set ?_ GE490.out | refine below_set ?_ GE502.out) | exact HB.out)⟩
       ·
        replace c47 := Bool.eq_false_iff.mpr c47
        subst c47
        have H1 : (some false) = some r := by rw [if_neg (show ¬ (false = true) by decide)] at H; exact H
        clear H
        have H := H1
        clear H1
        obtain rfl := Option.some.inj H
        go_wp2_with (first | ((with_reducible refine gate_callee (f := 6) rfl ?_); refine goesM_ (some 59) rfl rfl Try.func6 #[.slice A1 l1.length c1] rfl ?_; (with_reducible refine (laws_toInt64S.calls kj12 _ _ l1 t504 _ ?side1 ?side2 A42.out).mono ?_); (case side1 => exact cs ((Kd.C_below HR1.out HB.out))); (case side2 => exact HC1.out); rintro e w132 ⟨v505, rfl, ho0, hb⟩; refine ⟨_, rfl, ?_⟩; have n0_ := as0 (Kd.R_elder' (rs HO_11) (Kd.R_base ho0) hb); have n1_ := as0 (Kd.R_elder' (rs HO_12) (Kd.R_base ho0) hb); have n2_ := as0 (Kd.R_elder' (rs HO_491001) (Kd.R_base ho0) hb); have n3_ := as0 (Kd.R_elder' (rs HO_503001) (Kd.R_base ho0) hb); have n4_ := as0 (Kd.R_lower (Kd.R_new' (Kd.R_new' (Kd.R_new' (Kd.R_new' ho0 (Kd.R_lt (rs HO_11))) (Kd.R_lt (rs HO_12))) (Kd.R_lt (rs HO_491001))) (Kd.R_lt (rs HO_503001))) (below_size (by repeat (first | (with_reducible first | exact HB.out | apply below_alloc | apply pw_below_drewN | apply below_drew1 | refine below_set ?_ GE490.out | refine below_set ?_ GE502.out) | exact HB.out)))); have n5_ := as0 (blk_below (g := gb490) (o := .cells #[.int .i64 t485, .slice Ao21 t486.length co21] 30 (0, 0)) (by (with_reducible repeat (first | refine blk_drewN ?_ _ | refine blk_drew ?_ | refine blk_alloc ?_ _)); exact BK490.out) hb); have n6_ := as0 (blk_below (g := gb502) (o := .cells #[.int .i64 t497, .slice Ao30 t498.length co30] 30 (0, 0)) (by (with_reducible repeat (first | refine blk_drewN ?_ _ | refine blk_drew ?_ | refine blk_alloc ?_ _)); exact BK502.out) hb); have n7_ := as0 (below_step (by repeat (first | (with_reducible first | exact HB.out | apply below_alloc | apply pw_below_drewN | apply below_drew1 | refine below_set ?_ GE490.out | refine below_set ?_ GE502.out) | exact HB.out)) hb); clear HO_11; clear HO_12; clear HO_491001; clear HO_503001; clear BK490; clear BK502; clear HB; have HO_11 := n0_; have HO_12 := n1_; have HO_491001 := n2_; have HO_503001 := n3_; have HO506 := n4_; have BK490 := n5_; have BK502 := n6_; have HB := n7_; clear n0_ n1_ n2_ n3_ n4_ n5_ n6_ n7_; (try clear hb); (try clear hb2); (try clear hk); (try clear hi); (try clear ho0); obtain ⟨Ao133, co133, eo133⟩ := Kd.R_slice HO506.out; subst eo133) | ((with_reducible refine gate_callee (f := 8) rfl ?_); refine goesM_ (some 60) rfl rfl Try.func8 #[.slice Ao24 t491.length co24, .slice Ao133 t504.length co133] rfl ?_; (with_reducible refine (laws_eqInt64S.calls kj12 _ _ t491 _ _ t504 true _ ?side1 ?side2 ?side3 ?side4 A43.out).mono ?_); (case side1 => exact cs ((Kd.R_reads' HO_11.out).2.2)); (case side2 => exact (Kd.R_reads' HO_11.out).2.1); (case side3 => exact cs ((Kd.R_reads' HO506.out).2.2)); (case side4 => exact (Kd.R_reads' HO506.out).2.1); rintro e w' ⟨rfl, ⟨nd, rfl⟩⟩; refine ⟨_, rfl, ?_⟩) | ((with_reducible refine gate_callee (f := 6) rfl ?_); refine goesM_ (some 64) rfl rfl Try.func6 #[.slice A2 l2.length c2] rfl ?_; (with_reducible refine (laws_toInt64S.calls kj12 _ _ l2 t508 _ ?side1 ?side2 A45.out).mono ?_); (case side1 => repeat (first | exact (Kd.C_below HR2.out (by repeat (first | (with_reducible first | exact HB.out | apply below_alloc | apply pw_below_drewN | apply below_drew1 | refine below_set ?_ GE490.out | refine below_set ?_ GE502.out) | exact HB.out))) | (with_reducible refine Kd.C_alloc ?_ _) | (with_reducible refine Kd.C_drewN ?_ _) | (with_reducible refine Kd.C_drew ?_))); (case side2 => exact HC2.out); rintro e w134 ⟨v509, rfl, ho0, hb⟩; refine ⟨_, rfl, ?_⟩; have n0_ := as0 (Kd.R_elder' (rs HO_11) (Kd.R_base ho0) hb); have n1_ := as0 (Kd.R_elder' (rs HO_12) (Kd.R_base ho0) hb); have n2_ := as0 (Kd.R_elder' (rs HO_491001) (Kd.R_base ho0) hb); have n3_ := as0 (Kd.R_elder' (rs HO_503001) (Kd.R_base ho0) hb); have n4_ := as0 (Kd.R_elder' (rs HO506) (Kd.R_base ho0) hb); have n5_ := as0 (Kd.R_lower (Kd.R_new' (Kd.R_new' (Kd.R_new' (Kd.R_new' (Kd.R_new' ho0 (Kd.R_lt (rs HO_11))) (Kd.R_lt (rs HO_12))) (Kd.R_lt (rs HO_491001))) (Kd.R_lt (rs HO_503001))) (Kd.R_lt (rs HO506))) (below_size (by repeat (first | (with_reducible first | exact HB.out | apply below_alloc | apply pw_below_drewN | apply below_drew1 | refine below_set ?_ GE490.out | refine below_set ?_ GE502.out) | exact HB.out)))); have n6_ := as0 (blk_below (g := gb490) (o := .cells #[.int .i64 t485, .slice Ao21 t486.length co21] 30 (0, 0)) (by (with_reducible repeat (first | refine blk_drewN ?_ _ | refine blk_drew ?_ | refine blk_alloc ?_ _)); exact BK490.out) hb); have n7_ := as0 (blk_below (g := gb502) (o := .cells #[.int .i64 t497, .slice Ao30 t498.length co30] 30 (0, 0)) (by (with_reducible repeat (first | refine blk_drewN ?_ _ | refine blk_drew ?_ | refine blk_alloc ?_ _)); exact BK502.out) hb); have n8_ := as0 (below_step (by repeat (first | (with_reducible first | exact HB.out | apply below_alloc | apply pw_below_drewN | apply below_drew1 | refine below_set ?_ GE490.out | refine below_set ?_ GE502.out) | exact HB.out)) hb); clear HO_11; clear HO_12; clear HO_491001; clear HO_503001; clear HO506; clear BK490; clear BK502; clear HB; have HO_11 := n0_; have HO_12 := n1_; have HO_491001 := n2_; have HO_503001 := n3_; have HO506 := n4_; have HO510 := n5_; have BK490 := n6_; have BK502 := n7_; have HB := n8_; clear n0_ n1_ n2_ n3_ n4_ n5_ n6_ n7_ n8_; (try clear hb); (try clear hb2); (try clear hk); (try clear hi); (try clear ho0); obtain ⟨Ao135, co135, eo135⟩ := Kd.R_slice HO510.out; subst eo135) | ((with_reducible refine gate_callee (f := 8) rfl ?_); refine goesM_ (some 65) rfl rfl Try.func8 #[.slice Ao25 t494.length co25, .slice Ao135 t508.length co135] rfl ?_; (with_reducible refine (laws_eqInt64S.calls kj12 _ _ t494 _ _ t508 false _ ?side1 ?side2 ?side3 ?side4 A46.out).mono ?_); (case side1 => exact cs ((Kd.R_reads' HO_12.out).2.2)); (case side2 => exact (Kd.R_reads' HO_12.out).2.1); (case side3 => exact cs ((Kd.R_reads' HO510.out).2.2)); (case side4 => exact (Kd.R_reads' HO510.out).2.1); rintro e w' ⟨rfl, ⟨nd, rfl⟩⟩; refine ⟨_, rfl, ?_⟩))
        go_ret
        exact ⟨er_, by repeat (first | (with_reducible first | exact HB.out | apply below_alloc | apply pw_below_drewN | apply below_drew1 | refine below_set ?_ GE490.out | refine below_set ?_ GE502.out) | exact HB.out)⟩
      ·
       replace c44 := Bool.eq_false_iff.mpr c44
       subst c44
       have H1 : (some false) = some r := by rw [if_neg (show ¬ (false = true) by decide)] at H; exact H
       clear H
       have H := H1
       clear H1
       obtain rfl := Option.some.inj H
       go_wp2_with (first | ((with_reducible refine gate_callee (f := 6) rfl ?_); refine goesM_ (some 59) rfl rfl Try.func6 #[.slice A1 l1.length c1] rfl ?_; (with_reducible refine (laws_toInt64S.calls kj12 _ _ l1 t504 _ ?side1 ?side2 A42.out).mono ?_); (case side1 => exact cs ((Kd.C_below HR1.out HB.out))); (case side2 => exact HC1.out); rintro e w136 ⟨v505, rfl, ho0, hb⟩; refine ⟨_, rfl, ?_⟩; have n0_ := as0 (Kd.R_elder' (rs HO_11) (Kd.R_base ho0) hb); have n1_ := as0 (Kd.R_elder' (rs HO_12) (Kd.R_base ho0) hb); have n2_ := as0 (Kd.R_elder' (rs HO_491001) (Kd.R_base ho0) hb); have n3_ := as0 (Kd.R_elder' (rs HO_503001) (Kd.R_base ho0) hb); have n4_ := as0 (Kd.R_lower (Kd.R_new' (Kd.R_new' (Kd.R_new' (Kd.R_new' ho0 (Kd.R_lt (rs HO_11))) (Kd.R_lt (rs HO_12))) (Kd.R_lt (rs HO_491001))) (Kd.R_lt (rs HO_503001))) (below_size (by repeat (first | (with_reducible first | exact HB.out | apply below_alloc | apply pw_below_drewN | apply below_drew1 | refine below_set ?_ GE490.out | refine below_set ?_ GE502.out) | exact HB.out)))); have n5_ := as0 (blk_below (g := gb490) (o := .cells #[.int .i64 t485, .slice Ao21 t486.length co21] 30 (0, 0)) (by (with_reducible repeat (first | refine blk_drewN ?_ _ | refine blk_drew ?_ | refine blk_alloc ?_ _)); exact BK490.out) hb); have n6_ := as0 (blk_below (g := gb502) (o := .cells #[.int .i64 t497, .slice Ao30 t498.length co30] 30 (0, 0)) (by (with_reducible repeat (first | refine blk_drewN ?_ _ | refine blk_drew ?_ | refine blk_alloc ?_ _)); exact BK502.out) hb); have n7_ := as0 (below_step (by repeat (first | (with_reducible first | exact HB.out | apply below_alloc | apply pw_below_drewN | apply below_drew1 | refine below_set ?_ GE490.out | refine below_set ?_ GE502.out) | exact HB.out)) hb); clear HO_11; clear HO_12; clear HO_491001; clear HO_503001; clear BK490; clear BK502; clear HB; have HO_11 := n0_; have HO_12 := n1_; have HO_491001 := n2_; have HO_503001 := n3_; have HO506 := n4_; have BK490 := n5_; have BK502 := n6_; have HB := n7_; clear n0_ n1_ n2_ n3_ n4_ n5_ n6_ n7_; (try clear hb); (try clear hb2); (try clear hk); (try clear hi); (try clear ho0); obtain ⟨Ao137, co137, eo137⟩ := Kd.R_slice HO506.out; subst eo137) | ((with_reducible refine gate_callee (f := 8) rfl ?_); refine goesM_ (some 60) rfl rfl Try.func8 #[.slice Ao24 t491.length co24, .slice Ao137 t504.length co137] rfl ?_; (with_reducible refine (laws_eqInt64S.calls kj12 _ _ t491 _ _ t504 false _ ?side1 ?side2 ?side3 ?side4 A43.out).mono ?_); (case side1 => exact cs ((Kd.R_reads' HO_11.out).2.2)); (case side2 => exact (Kd.R_reads' HO_11.out).2.1); (case side3 => exact cs ((Kd.R_reads' HO506.out).2.2)); (case side4 => exact (Kd.R_reads' HO506.out).2.1); rintro e w' ⟨rfl, ⟨nd, rfl⟩⟩; refine ⟨_, rfl, ?_⟩))
       go_ret
       exact ⟨er_, by repeat (first | (with_reducible first | exact HB.out | apply below_alloc | apply pw_below_drewN | apply below_drew1 | refine below_set ?_ GE490.out | refine below_set ?_ GE502.out) | exact HB.out)⟩
def laws_FnExactMomentsOfNodes.Pure : Prop := ∀ (a0 : Int) (l1 : List Int) (l2 : List Int) (a3 : Int), (Lit.int .i64 a0).wf = true → l1.length ≤ maxLen → l1.length * 8 ≤ 140737488351232 → (∀ x ∈ l1, (Lit.int .i64 x).wf = true) → l2.length ≤ maxLen → l2.length * 8 ≤ 140737488351232 → (∀ x ∈ l2, (Lit.int .i64 x).wf = true) → (Lit.int .i64 a3).wf = true → ∃ k, laws_FnExactMomentsOfNodes.f k a0 l1 l2 a3 = some true
theorem laws_FnExactMomentsOfNodes.walk (P : laws_FnExactMomentsOfNodes.Pure) (a0 : Int) (a1 : Option Addr) (len1 cap1 : Nat) (z1 : List Int) (a2 : Option Addr) (len2 cap2 : Nat) (z2 : List Int) (a3 : Int) (w : World) (w0 : (Lit.int .i64 a0).wf = true) (w1 : (a1 = none ∧ len1 = 0 ∧ cap1 = 0 ∧ z1 = []) ∨ ∃ x, a1 = some x ∧ len1 ≤ cap1 ∧ cap1 ≤ maxLen ∧ z1.length = cap1 ∧ (∀ i, i < z1.length → w.cell? (x.add i) = some (.int .i64 (z1.getD i 0))) ∧ ∀ n ∈ z1, (Lit.int .i64 n).wf = true) (y1 : len1 * 8 ≤ 140737488351232) (w2 : (a2 = none ∧ len2 = 0 ∧ cap2 = 0 ∧ z2 = []) ∨ ∃ x, a2 = some x ∧ len2 ≤ cap2 ∧ cap2 ≤ maxLen ∧ z2.length = cap2 ∧ (∀ i, i < z2.length → w.cell? (x.add i) = some (.int .i64 (z2.getD i 0))) ∧ ∀ n ∈ z2, (Lit.int .i64 n).wf = true) (y2 : len2 * 8 ≤ 140737488351232) (w3 : (Lit.int .i64 a3).wf = true) :
  Calls Try.prog 4 #[.int .i64 a0, .slice a1 len1 cap1, .slice a2 len2 cap2, .int .i64 a3] w fun e w' => e = .returned (.bool true) ∧ Below w.heap.size w w' := by
 obtain ⟨l1, rfl, hr1, hm1, hw1, hc1⟩ := ReadsInt.ofRowC w1
 obtain ⟨l2, rfl, hr2, hm2, hw2, hc2⟩ := ReadsInt.ofRowC w2
 obtain ⟨k, h⟩ := P a0 l1 l2 a3 w0 hm1 y1 hw1 hm2 y2 hw2 w3
 refine (laws_FnExactMomentsOfNodes.calls k a0 _ _ l1 _ _ l2 a3 true w (Kd.C_of_reads (d := (0 : Int)) (h1 := fun _ => rfl) hr1) hc1 (Kd.C_of_reads (d := (0 : Int)) (h1 := fun _ => rfl) hr2) hc2 h).mono ?_
 rintro e w' ⟨rfl, hd⟩
 exact ⟨rfl, hd⟩
end Go.Proofs.Ytnigpjcnffgfgaa.H
