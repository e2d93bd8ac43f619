/- Joined texts of a claim: the printed functions and what is proved of them. -/
import Derived.Test.YtnigpjcnffgfgaaYHx0
import Derived.Test.YtnigpjcnffgfgaaMa3
import Derived.Test.YtnigpjcnffgfgaaMab2
import Derived.Test.YtnigpjcnffgfgaaMab3
import Derived.Test.YtnigpjcnffgfgaaMa9
namespace Go.Proofs.Ytnigpjcnffgfgaa.H
open Go.RowKit Go.Proofs.YtnigpjcnffgfgaaW.PrintWords Go.Proofs.YtnigpjcnffgfgaaW.PrintLast Go.Proofs.YtnigpjcnffgfgaaW.PrintMore
attribute [local go_sem] max2_int min2_int max_two min_two max_three min_three max_four min_four   -- for this text's walks alone
set_option linter.unusedVariables false
set_option linter.unusedSimpArgs false
mutual
def laws_FnExactInterpolatePoly.j0 : Nat → Int → List Int → List Int → List Int → Int → List Int → List Int → List Int → Int → Bool → Option (Bool)
 | 0, _, _, _, _, _, _, _, _, _, _ => none
 | k + 1, x0, x1, x2, x7, x8, x9, x10, x11, x12, x52 => if x52 = true then (some false) else ((laws_toInt64S.f k x1).bind fun t398 => ((laws_eqInt64S.f k x9 t398).bind fun t401 => (if t401 = true then ((laws_toInt64S.f k x2).bind fun t402 => ((laws_eqInt64S.f k x10 t402).bind fun t405 => (if t405 = true then ((laws_markInt64S.f k x9 1).bind fun bt406 => ((laws_markInt64S.f k x10 bt406.1).bind fun bt408 => (if bt408.1 < 0 then (laws_FnExactInterpolatePoly.j1 k x0 x1 x2 x7 x8 x11 true) else ((laws_eqInt64S.f k x11 x7).bind fun t410 => (if t410 = true then (laws_FnExactInterpolatePoly.j1 k x0 x1 x2 x7 x8 x11 (x12 != x8)) else (laws_FnExactInterpolatePoly.j1 k x0 x1 x2 x7 x8 x11 true)))))) else (some false)))) else (some false))))
def laws_FnExactInterpolatePoly.j1 : Nat → Int → List Int → List Int → List Int → Int → List Int → Bool → Option (Bool)
 | 0, _, _, _, _, _, _, _ => none
 | k + 1, x0, x1, x2, x7, x8, x11, x81 => if x81 = true then (some false) else ((laws_markInt64S.f k x11 1).bind fun bt411 => ((laws_heldInt64S.f k bt411.2 1).bind fun t413 => (if t413 < 0 then (some false) else (if t413 = bt411.1 then ((laws_toInt64S.f k x1).bind fun t414 => ((laws_toInt64S.f k x2).bind fun t417 => ((impl_InterpolatePoly.f k x0 t414 t417).bind fun bt420 => ((laws_eqInt64S.f k bt420.1 x7).bind fun t424 => (if t424 = true then (laws_FnExactInterpolatePoly.j2 k bt411.2 bt411.1 (bt420.2 != x8)) else (laws_FnExactInterpolatePoly.j2 k bt411.2 bt411.1 true)))))) else (some false)))))
def laws_FnExactInterpolatePoly.j2 : Nat → List Int → Int → Bool → Option (Bool)
 | 0, _, _, _ => none
 | k + 1, x11, x14, x110 => if x110 = true then (some false) else ((laws_heldInt64S.f k x11 1).bind fun t425 => (if t425 < 0 then (some false) else (if t425 = x14 then (some true) else (some false))))
end
def laws_FnExactInterpolatePoly.f (k : Nat) (a0 : Int) (l1 : List Int) (l2 : List Int) : Option (Bool) := if (l1.length : Int) > 1048576 then (some true) else (if (l2.length : Int) > 1048576 then (some true) else ((laws_toInt64S.f k l1).bind fun t377 => ((laws_toInt64S.f k l2).bind fun t380 => ((spec_InterpolatePoly.f k a0 t377 t380).bind fun bt383 => ((laws_toInt64S.f k l1).bind fun t387 => ((laws_toInt64S.f k l2).bind fun t390 => ((impl_InterpolatePoly.f k a0 t387 t390).bind fun bt393 => ((laws_eqInt64S.f k bt393.1 bt383.1).bind fun t397 => (if t397 = true then (laws_FnExactInterpolatePoly.j0 k a0 l1 l2 bt383.1 bt383.2 t387 t390 bt393.1 bt393.2 (bt393.2 != bt383.2)) else (laws_FnExactInterpolatePoly.j0 k a0 l1 l2 bt383.1 bt383.2 t387 t390 bt393.1 bt393.2 true))))))))))
set_option maxHeartbeats 8000000 in
set_option maxRecDepth 100000 in
theorem laws_FnExactInterpolatePoly.calls (k : Nat) (a0 : Int) (A1 : Option Addr) (c1 : Nat) (l1 : List Int) (A2 : Option Addr) (c2 : Nat) (l2 : List Int) (r : Bool) (w : World) (hr1 : Kd.C (Kd.int .i64) w A1 l1.length l1) (hc1 : l1.length ≤ c1) (hr2 : Kd.C (Kd.int .i64) w A2 l2.length l2) (hc2 : l2.length ≤ c2) (h : laws_FnExactInterpolatePoly.f k a0 l1 l2 = some r) :
  Calls Try.prog 3 #[.int .i64 a0, .slice A1 l1.length c1, .slice A2 l2.length c2] w fun e w' => e = .returned (.bool r) ∧ Below w.heap.size w w' := by
 have HR1 := as0 hr1
 have HC1 := as0 hc1
 clear hr1 hc1
 have HR2 := as0 hr2
 have HC2 := as0 hc2
 clear hr2 hc2
 have HB := as0 (Below.refl w.heap.size w)
 have H : (if (l1.length : Int) > 1048576 then (some true) else (if (l2.length : Int) > 1048576 then (some true) else ((laws_toInt64S.f k l1).bind fun t377 => ((laws_toInt64S.f k l2).bind fun t380 => ((spec_InterpolatePoly.f k a0 t377 t380).bind fun bt383 => ((laws_toInt64S.f k l1).bind fun t387 => ((laws_toInt64S.f k l2).bind fun t390 => ((impl_InterpolatePoly.f k a0 t387 t390).bind fun bt393 => ((laws_eqInt64S.f k bt393.1 bt383.1).bind fun t397 => (if t397 = true then (laws_FnExactInterpolatePoly.j0 k a0 l1 l2 bt383.1 bt383.2 t387 t390 bt393.1 bt393.2 (bt393.2 != bt383.2)) else (laws_FnExactInterpolatePoly.j0 k a0 l1 l2 bt383.1 bt383.2 t387 t390 bt393.1 bt393.2 true))))))))))) = some r := h
 clear h
 by_cases c4 : (l1.length : Int) > 1048576
 ·
  rw [if_pos c4] at H
  have c4b0 : decide (1048576 < (l1.length : Int)) = true := decide_eq_true c4
  have c4b1 : decide (1048576 < l1.length) = true := decide_eq_true (by omega)
  clear c4
  obtain rfl := Option.some.inj H
  go_enter Try.func3, Try.ntmps3
  go_wp2
  go_ret
  exact ⟨er_, bs HB⟩
 ·
  rw [if_neg c4] at H
  have c4b0 : decide (1048576 < (l1.length : Int)) = false := decide_eq_false c4
  have c4b1 : decide (1048576 < l1.length) = false := decide_eq_false (by omega)
  clear c4
  by_cases c5 : (l2.length : Int) > 1048576
  ·
   rw [if_pos c5] at H
   have c5b0 : decide (1048576 < (l2.length : Int)) = true := decide_eq_true c5
   have c5b1 : decide (1048576 < l2.length) = true := decide_eq_true (by omega)
   clear c5
   obtain rfl := Option.some.inj H
   go_enter Try.func3, Try.ntmps3
   go_wp2
   go_ret
   exact ⟨er_, bs HB⟩
  ·
   rw [if_neg c5] at H
   have c5b0 : decide (1048576 < (l2.length : Int)) = false := decide_eq_false c5
   have c5b1 : decide (1048576 < l2.length) = false := decide_eq_false (by omega)
   clear c5
   replace H := Option.bind_eq_some_iff.mp H
   obtain ⟨t377, A60, H⟩ := H
   have A6 := as0 A60
   clear A60
   replace H := Option.bind_eq_some_iff.mp H
   obtain ⟨t380, A70, H⟩ := H
   have A7 := as0 A70
   clear A70
   replace H := Option.bind_eq_some_iff.mp H
   obtain ⟨⟨t383, t384⟩, A80, H⟩ := H
   have A8 := as0 A80
   clear A80
   replace H := Option.bind_eq_some_iff.mp H
   obtain ⟨t387, A90, H⟩ := H
   have A9 := as0 A90
   clear A90
   replace H := Option.bind_eq_some_iff.mp H
   obtain ⟨t390, A100, H⟩ := H
   have A10 := as0 A100
   clear A100
   replace H := Option.bind_eq_some_iff.mp H
   obtain ⟨⟨t393, t394⟩, A110, H⟩ := H
   have A11 := as0 A110
   clear A110
   have HC12 := as0 H
   clear H
   go_enter Try.func3, Try.ntmps3
   go_upto_region 9 with (first | ((with_reducible refine gate_callee (f := 6) rfl ?_); refine goesM_ (some 27) rfl rfl Try.func6 #[.slice A1 l1.length c1] rfl ?_; (with_reducible refine (laws_toInt64S.calls k _ _ l1 t377 _ ?side1 ?side2 A6.out).mono ?_); (case side1 => exact cs (HR1.out)); (case side2 => exact HC1.out); rintro e w13 ⟨v378, rfl, ho0, hb⟩; refine ⟨_, rfl, ?_⟩; have n0_ := as0 (Kd.R_lower ho0 (below_size (bs HB))); have n1_ := as0 (below_step (bs HB) hb); clear HB; have HO379 := n0_; have HB := n1_; clear n0_ n1_; (try clear hb); (try clear hb2); (try clear hk); (try clear hi); (try clear ho0)) | ((with_reducible refine gate_callee (f := 6) rfl ?_); refine goesM_ (some 29) rfl rfl Try.func6 #[.slice A2 l2.length c2] rfl ?_; (with_reducible refine (laws_toInt64S.calls k _ _ l2 t380 _ ?side1 ?side2 A7.out).mono ?_); (case side1 => exact cs ((Kd.C_below HR2.out HB.out))); (case side2 => exact HC2.out); rintro e w14 ⟨v381, rfl, ho0, hb⟩; refine ⟨_, rfl, ?_⟩; have n0_ := as0 (Kd.R_elder' (rs HO379) (Kd.R_base ho0) hb); have n1_ := as0 (Kd.R_lower (Kd.R_new' ho0 (Kd.R_lt (rs HO379))) (below_size (bs HB))); have n2_ := as0 (below_step (bs HB) hb); clear HO379; clear HB; have HO379 := n0_; have HO382 := n1_; have HB := n2_; clear n0_ n1_ n2_; (try clear hb); (try clear hb2); (try clear hk); (try clear hi); (try clear ho0); obtain ⟨Ao15, co15, eo15⟩ := Kd.R_slice HO379.out; subst eo15; obtain ⟨Ao16, co16, eo16⟩ := Kd.R_slice HO382.out; subst eo16) | ((with_reducible refine gate_callee (f := 5) rfl ?_); refine goesM_ (some 30) rfl rfl Try.func5 #[.int .i64 a0, .slice Ao15 t377.length co15, .slice Ao16 t380.length co16] rfl ?_; (with_reducible refine (spec_InterpolatePoly.calls k a0 _ _ t377 _ _ t380 t383 t384 _ ?side1 ?side2 ?side3 ?side4 A8.out).mono ?_); (case side1 => exact cs ((Kd.R_reads' HO379.out).2.2)); (case side2 => exact (Kd.R_reads' HO379.out).2.1); (case side3 => exact cs ((Kd.R_reads' HO382.out).2.2)); (case side4 => exact (Kd.R_reads' HO382.out).2.1); rintro e w17 ⟨v385, rfl, ho0, hb⟩; refine ⟨_, rfl, ?_⟩; have n0_ := as0 (Kd.R_elder' (rs HO379) (Kd.R_base ho0) hb); have n1_ := as0 (Kd.R_elder' (rs HO382) (Kd.R_base ho0) hb); have n2_ := as0 (Kd.R_lower (Kd.R_new' (Kd.R_new' ho0 (Kd.R_lt (rs HO379))) (Kd.R_lt (rs HO382))) (below_size (bs HB))); have n3_ := as0 (below_step (bs HB) hb); clear HO379; clear HO382; clear HB; have HO379 := n0_; have HO382 := n1_; have HO386 := n2_; have HB := n3_; clear n0_ n1_ n2_ n3_; (try clear hb); (try clear hb2); (try clear hk); (try clear hi); (try clear ho0)) | ((with_reducible refine gate_callee (f := 6) rfl ?_); refine goesM_ (some 34) rfl rfl Try.func6 #[.slice A1 l1.length c1] rfl ?_; (with_reducible refine (laws_toInt64S.calls k _ _ l1 t387 _ ?side1 ?side2 A9.out).mono ?_); (case side1 => exact cs ((Kd.C_below HR1.out HB.out))); (case side2 => exact HC1.out); rintro e w18 ⟨v388, rfl, ho0, hb⟩; refine ⟨_, rfl, ?_⟩; have n0_ := as0 (Kd.R_elder' (rs HO379) (Kd.R_base ho0) hb); have n1_ := as0 (Kd.R_elder' (rs HO382) (Kd.R_base ho0) hb); have n2_ := as0 (Kd.R_elder' (rs HO386) (Kd.R_base ho0) hb); have n3_ := as0 (Kd.R_lower (Kd.R_new' (Kd.R_new' (Kd.R_new' ho0 (Kd.R_lt (rs HO379))) (Kd.R_lt (rs HO382))) (Kd.R_lt (rs HO386))) (below_size (bs HB))); have n4_ := as0 (below_step (bs HB) hb); clear HO379; clear HO382; clear HO386; clear HB; have HO379 := n0_; have HO382 := n1_; have HO386 := n2_; have HO389 := n3_; have HB := n4_; clear n0_ n1_ n2_ n3_ n4_; (try clear hb); (try clear hb2); (try clear hk); (try clear hi); (try clear ho0)) | ((with_reducible refine gate_callee (f := 6) rfl ?_); refine goesM_ (some 36) rfl rfl Try.func6 #[.slice A2 l2.length c2] rfl ?_; (with_reducible refine (laws_toInt64S.calls k _ _ l2 t390 _ ?side1 ?side2 A10.out).mono ?_); (case side1 => exact cs ((Kd.C_below HR2.out HB.out))); (case side2 => exact HC2.out); rintro e w19 ⟨v391, rfl, ho0, hb⟩; refine ⟨_, rfl, ?_⟩; have n0_ := as0 (Kd.R_elder' (rs HO379) (Kd.R_base ho0) hb); have n1_ := as0 (Kd.R_elder' (rs HO382) (Kd.R_base ho0) hb); have n2_ := as0 (Kd.R_elder' (rs HO386) (Kd.R_base ho0) hb); have n3_ := as0 (Kd.R_elder' (rs HO389) (Kd.R_base ho0) hb); have n4_ := as0 (Kd.R_lower (Kd.R_new' (Kd.R_new' (Kd.R_new' (Kd.R_new' ho0 (Kd.R_lt (rs HO379))) (Kd.R_lt (rs HO382))) (Kd.R_lt (rs HO386))) (Kd.R_lt (rs HO389))) (below_size (bs HB))); have n5_ := as0 (below_step (bs HB) hb); clear HO379; clear HO382; clear HO386; clear HO389; clear HB; have HO379 := n0_; have HO382 := n1_; have HO386 := n2_; have HO389 := n3_; have HO392 := n4_; have HB := n5_; clear n0_ n1_ n2_ n3_ n4_ n5_; (try clear hb); (try clear hb2); (try clear hk); (try clear hi); (try clear ho0); obtain ⟨Ao20, co20, eo20⟩ := Kd.R_slice HO389.out; subst eo20; obtain ⟨Ao21, co21, eo21⟩ := Kd.R_slice HO392.out; subst eo21) | ((with_reducible refine gate_callee (f := 7) rfl ?_); refine goesM_ (some 41) rfl rfl Try.func7 #[.int .i64 a0, .slice Ao20 t387.length co20, .slice Ao21 t390.length co21] rfl ?_; (with_reducible refine (impl_InterpolatePoly.calls k a0 _ _ t387 _ _ t390 t393 t394 _ ?side1 ?side2 ?side3 ?side4 A11.out).mono ?_); (case side1 => exact cs ((Kd.R_reads' HO389.out).2.2)); (case side2 => exact (Kd.R_reads' HO389.out).2.1); (case side3 => exact cs ((Kd.R_reads' HO392.out).2.2)); (case side4 => exact (Kd.R_reads' HO392.out).2.1); rintro e w22 ⟨v395, rfl, ho0, hb⟩; refine ⟨_, rfl, ?_⟩; have n0_ := as0 (Kd.R_elder' (rs HO379) (Kd.R_base ho0) hb); have n1_ := as0 (Kd.R_elder' (rs HO382) (Kd.R_base ho0) hb); have n2_ := as0 (Kd.R_elder' (rs HO386) (Kd.R_base ho0) hb); have n3_ := as0 (Kd.R_elder' (rs HO389) (Kd.R_base ho0) hb); have n4_ := as0 (Kd.R_elder' (rs HO392) (Kd.R_base ho0) hb); have n5_ := as0 (Kd.R_lower (Kd.R_new' (Kd.R_new' (Kd.R_new' (Kd.R_new' (Kd.R_new' ho0 (Kd.R_lt (rs HO379))) (Kd.R_lt (rs HO382))) (Kd.R_lt (rs HO386))) (Kd.R_lt (rs HO389))) (Kd.R_lt (rs HO392))) (below_size (bs HB))); have n6_ := as0 (below_step (bs HB) hb); clear HO379; clear HO382; clear HO386; clear HO389; clear HO392; clear HB; have HO379 := n0_; have HO382 := n1_; have HO386 := n2_; have HO389 := n3_; have HO392 := n4_; have HO396 := n5_; have HB := n6_; clear n0_ n1_ n2_ n3_ n4_ n5_ n6_; (try clear hb); (try clear hb2); (try clear hk); (try clear hi); (try clear ho0)))
   (try simp only [Act.put, List.setIfInBounds_toArray, List.set_cons_zero, List.set_cons_succ])
   go_cut [52] (fun v52 wc => ∃ (kq : Nat) (x52_11 : Bool), v52 = .bool x52_11 ∧ Aside0 (laws_FnExactInterpolatePoly.j0 kq a0 l1 l2 t383 t384 t387 t390 t393 t394 x52_11 = some r) ∧ Aside0 (kq ≤ k) ∧ Aside0 (Kd.R (Kd.int .i64) 2 wc w.heap.size (fun k_ => some k_ ≠ ((.slice Ao20 t387.length co20) : Value).ownBlock ∧ some k_ ≠ ((.slice Ao21 t390.length co21) : Value).ownBlock ∧ some k_ ≠ (v395 : Value).ownBlock) v385 t383) ∧ Aside0 (Kd.R (Kd.int .i64) 2 wc w.heap.size (fun k_ => some k_ ≠ (v385 : Value).ownBlock ∧ some k_ ≠ ((.slice Ao21 t390.length co21) : Value).ownBlock ∧ some k_ ≠ (v395 : Value).ownBlock) (.slice Ao20 t387.length co20) t387) ∧ Aside0 (Kd.R (Kd.int .i64) 2 wc w.heap.size (fun k_ => some k_ ≠ (v385 : Value).ownBlock ∧ some k_ ≠ ((.slice Ao20 t387.length co20) : Value).ownBlock ∧ some k_ ≠ (v395 : Value).ownBlock) (.slice Ao21 t390.length co21) t390) ∧ Aside0 (Kd.R (Kd.int .i64) 2 wc w.heap.size (fun k_ => some k_ ≠ (v385 : Value).ownBlock ∧ some k_ ≠ ((.slice Ao20 t387.length co20) : Value).ownBlock ∧ some k_ ≠ ((.slice Ao21 t390.length co21) : Value).ownBlock) v395 t393) ∧ Aside0 (Below w.heap.size w wc))
   case first =>
    have H := HC12.out
    clear HC12
    replace H := Option.bind_eq_some_iff.mp H
    obtain ⟨t397, A230, H⟩ := H
    have A23 := as0 A230
    clear A230
    by_cases c24 : t397 = true
    ·
     subst c24
     have H1 : (laws_FnExactInterpolatePoly.j0 k a0 l1 l2 t383 t384 t387 t390 t393 t394 (t394 != t384)) = some r := by rw [if_pos rfl] at H; exact H
     clear H
     have H := H1
     clear H1
     have H' := as0 H
     clear H
     obtain ⟨Ao25, co25, eo25⟩ := Kd.R_slice HO396.out
     subst eo25
     obtain ⟨Ao26, co26, eo26⟩ := Kd.R_slice HO386.out
     subst eo26
     go_wp2_with (first | ((with_reducible refine gate_callee (f := 8) rfl ?_); refine goesM_ (some 46) rfl rfl Try.func8 #[.slice Ao25 t393.length co25, .slice Ao26 t383.length co26] rfl ?_; (with_reducible refine (laws_eqInt64S.calls k _ _ t393 _ _ t383 true _ ?side1 ?side2 ?side3 ?side4 A23.out).mono ?_); (case side1 => exact cs ((Kd.R_reads' HO396.out).2.2)); (case side2 => exact (Kd.R_reads' HO396.out).2.1); (case side3 => exact cs ((Kd.R_reads' HO386.out).2.2)); (case side4 => exact (Kd.R_reads' HO386.out).2.1); rintro e w' ⟨rfl, ⟨nd, rfl⟩⟩; refine ⟨_, rfl, ?_⟩))
     go_meet
     case rel => exact ⟨_, ((t394 != t384)), ea_, H', ⟨by first | omega | exact Nat.le_refl _⟩, ⟨by (with_reducible repeat (first | apply Kd.R_alloc | apply Kd.R_drewN | apply Kd.R_drew)); exact Kd.R_mono HO386.out (fun _ hk => ⟨hk.1.1.2, ⟨hk.1.2, hk.2⟩⟩)⟩, ⟨by (with_reducible repeat (first | apply Kd.R_alloc | apply Kd.R_drewN | apply Kd.R_drew)); exact Kd.R_mono HO389.out (fun _ hk => ⟨hk.1.1.2, ⟨hk.1.2, hk.2⟩⟩)⟩, ⟨by (with_reducible repeat (first | apply Kd.R_alloc | apply Kd.R_drewN | apply Kd.R_drew)); exact Kd.R_mono HO392.out (fun _ hk => ⟨hk.1.1.2, ⟨hk.1.2, hk.2⟩⟩)⟩, ⟨by (with_reducible repeat (first | apply Kd.R_alloc | apply Kd.R_drewN | apply Kd.R_drew)); exact Kd.R_mono HO396.out (fun _ hk => ⟨hk.1.1.2, ⟨hk.1.2, hk.2⟩⟩)⟩, ⟨bs HB⟩⟩
    ·
     replace c24 := Bool.eq_false_iff.mpr c24
     subst c24
     have H1 : (laws_FnExactInterpolatePoly.j0 k a0 l1 l2 t383 t384 t387 t390 t393 t394 true) = some r := by rw [if_neg (show ¬ (false = true) by decide)] at H; exact H
     clear H
     have H := H1
     clear H1
     have H' := as0 H
     clear H
     obtain ⟨Ao27, co27, eo27⟩ := Kd.R_slice HO396.out
     subst eo27
     obtain ⟨Ao28, co28, eo28⟩ := Kd.R_slice HO386.out
     subst eo28
     go_wp2_with (first | ((with_reducible refine gate_callee (f := 8) rfl ?_); refine goesM_ (some 46) rfl rfl Try.func8 #[.slice Ao27 t393.length co27, .slice Ao28 t383.length co28] rfl ?_; (with_reducible refine (laws_eqInt64S.calls k _ _ t393 _ _ t383 false _ ?side1 ?side2 ?side3 ?side4 A23.out).mono ?_); (case side1 => exact cs ((Kd.R_reads' HO396.out).2.2)); (case side2 => exact (Kd.R_reads' HO396.out).2.1); (case side3 => exact cs ((Kd.R_reads' HO386.out).2.2)); (case side4 => exact (Kd.R_reads' HO386.out).2.1); rintro e w' ⟨rfl, ⟨nd, rfl⟩⟩; refine ⟨_, rfl, ?_⟩))
     go_meet
     case rel => exact ⟨_, (true), ea_, H', ⟨by first | omega | exact Nat.le_refl _⟩, ⟨by (with_reducible repeat (first | apply Kd.R_alloc | apply Kd.R_drewN | apply Kd.R_drew)); exact Kd.R_mono HO386.out (fun _ hk => ⟨hk.1.1.2, ⟨hk.1.2, hk.2⟩⟩)⟩, ⟨by (with_reducible repeat (first | apply Kd.R_alloc | apply Kd.R_drewN | apply Kd.R_drew)); exact Kd.R_mono HO389.out (fun _ hk => ⟨hk.1.1.2, ⟨hk.1.2, hk.2⟩⟩)⟩, ⟨by (with_reducible repeat (first | apply Kd.R_alloc | apply Kd.R_drewN | apply Kd.R_drew)); exact Kd.R_mono HO392.out (fun _ hk => ⟨hk.1.1.2, ⟨hk.1.2, hk.2⟩⟩)⟩, ⟨by (with_reducible repeat (first | apply Kd.R_alloc | apply Kd.R_drewN | apply Kd.R_drew)); exact Kd.R_mono HO396.out (fun _ hk => ⟨hk.1.1.2, ⟨hk.1.2, hk.2⟩⟩)⟩, ⟨bs HB⟩⟩
   case rest =>
    clear HC12
    try clear c1
    try clear c2
    try clear p2
    try clear c3
    try clear c4
    try clear c4b0
    try clear c4b1
    try clear c5
    try clear c5b0
    try clear c5b1
    try clear c6
    try clear c7
    try clear c8
    try clear c24
    obtain ⟨kq, x52_11, rfl, HA, HJ11, HO_7, HO_9, HO_10, HO_11, HB⟩ := hcut
    cases kq with
    | zero => exact absurd HA.out (by simp [laws_FnExactInterpolatePoly.j0])
    | succ kj11 =>
     have H := HA.out
     clear HA
     simp only [laws_FnExactInterpolatePoly.j0] at H
     by_cases c29 : x52_11 = true
     ·
      subst c29
      have H1 : (some false) = some r := by rw [if_pos rfl] at H; exact H
      clear H
      have H := H1
      clear H1
      obtain rfl := Option.some.inj H
      go_wp2
      go_ret
      exact ⟨er_, bs HB⟩
     ·
      replace c29 := Bool.eq_false_iff.mpr c29
      subst c29
      have H1 : ((laws_toInt64S.f kj11 l1).bind fun t398 => ((laws_eqInt64S.f kj11 t387 t398).bind fun t401 => (if t401 = true then ((laws_toInt64S.f kj11 l2).bind fun t402 => ((laws_eqInt64S.f kj11 t390 t402).bind fun t405 => (if t405 = true then ((laws_markInt64S.f kj11 t387 1).bind fun bt406 => ((laws_markInt64S.f kj11 t390 bt406.1).bind fun bt408 => (if bt408.1 < 0 then (laws_FnExactInterpolatePoly.j1 kj11 a0 l1 l2 t383 t384 t393 true) else ((laws_eqInt64S.f kj11 t393 t383).bind fun t410 => (if t410 = true then (laws_FnExactInterpolatePoly.j1 kj11 a0 l1 l2 t383 t384 t393 (t394 != t384)) else (laws_FnExactInterpolatePoly.j1 kj11 a0 l1 l2 t383 t384 t393 true)))))) else (some false)))) else (some false)))) = some r := by rw [if_neg (show ¬ (false = true) by decide)] at H; exact H
      clear H
      have H := H1
      clear H1
      replace H := Option.bind_eq_some_iff.mp H
      obtain ⟨t398, A300, H⟩ := H
      have A30 := as0 A300
      clear A300
      replace H := Option.bind_eq_some_iff.mp H
      obtain ⟨t401, A310, H⟩ := H
      have A31 := as0 A310
      clear A310
      by_cases c32 : t401 = true
      ·
       subst c32
       have H1 : ((laws_toInt64S.f kj11 l2).bind fun t402 => ((laws_eqInt64S.f kj11 t390 t402).bind fun t405 => (if t405 = true then ((laws_markInt64S.f kj11 t387 1).bind fun bt406 => ((laws_markInt64S.f kj11 t390 bt406.1).bind fun bt408 => (if bt408.1 < 0 then (laws_FnExactInterpolatePoly.j1 kj11 a0 l1 l2 t383 t384 t393 true) else ((laws_eqInt64S.f kj11 t393 t383).bind fun t410 => (if t410 = true then (laws_FnExactInterpolatePoly.j1 kj11 a0 l1 l2 t383 t384 t393 (t394 != t384)) else (laws_FnExactInterpolatePoly.j1 kj11 a0 l1 l2 t383 t384 t393 true)))))) else (some false)))) = some r := by rw [if_pos rfl] at H; exact H
       clear H
       have H := H1
       clear H1
       replace H := Option.bind_eq_some_iff.mp H
       obtain ⟨t402, A330, H⟩ := H
       have A33 := as0 A330
       clear A330
       replace H := Option.bind_eq_some_iff.mp H
       obtain ⟨t405, A340, H⟩ := H
       have A34 := as0 A340
       clear A340
       by_cases c35 : t405 = true
       ·
        subst c35
        have H1 : ((laws_markInt64S.f kj11 t387 1).bind fun bt406 => ((laws_markInt64S.f kj11 t390 bt406.1).bind fun bt408 => (if bt408.1 < 0 then (laws_FnExactInterpolatePoly.j1 kj11 a0 l1 l2 t383 t384 t393 true) else ((laws_eqInt64S.f kj11 t393 t383).bind fun t410 => (if t410 = true then (laws_FnExactInterpolatePoly.j1 kj11 a0 l1 l2 t383 t384 t393 (t394 != t384)) else (laws_FnExactInterpolatePoly.j1 kj11 a0 l1 l2 t383 t384 t393 true)))))) = some r := by rw [if_pos rfl] at H; exact H
        clear H
        have H := H1
        clear H1
        replace H := Option.bind_eq_some_iff.mp H
        obtain ⟨⟨t406, t407⟩, A360, H⟩ := H
        have A36 := as0 A360
        clear A360
        replace H := Option.bind_eq_some_iff.mp H
        obtain ⟨⟨t408, t409⟩, A370, H⟩ := H
        have A37 := as0 A370
        clear A370
        have HC38 := as0 H
        clear H
        go_upto_region 18 with (first | ((with_reducible refine gate_callee (f := 6) rfl ?_); refine goesM_ (some 55) rfl rfl Try.func6 #[.slice A1 l1.length c1] rfl ?_; (with_reducible refine (laws_toInt64S.calls kj11 _ _ l1 t398 _ ?side1 ?side2 A30.out).mono ?_); (case side1 => exact cs ((Kd.C_below HR1.out HB.out))); (case side2 => exact HC1.out); rintro e w39 ⟨v399, rfl, ho0, hb⟩; refine ⟨_, rfl, ?_⟩; have n0_ := as0 (Kd.R_elder' (rs HO_7) (Kd.R_base ho0) hb); have n1_ := as0 (Kd.R_elder' (rs HO_9) (Kd.R_base ho0) hb); have n2_ := as0 (Kd.R_elder' (rs HO_10) (Kd.R_base ho0) hb); have n3_ := as0 (Kd.R_elder' (rs HO_11) (Kd.R_base ho0) hb); have n4_ := as0 (Kd.R_lower (Kd.R_new' (Kd.R_new' (Kd.R_new' (Kd.R_new' ho0 (Kd.R_lt (rs HO_7))) (Kd.R_lt (rs HO_9))) (Kd.R_lt (rs HO_10))) (Kd.R_lt (rs HO_11))) (below_size (bs HB))); have n5_ := as0 (below_step (bs HB) hb); clear HO_7; clear HO_9; clear HO_10; clear HO_11; clear HB; have HO_7 := n0_; have HO_9 := n1_; have HO_10 := n2_; have HO_11 := n3_; have HO400 := n4_; have HB := n5_; clear n0_ n1_ n2_ n3_ n4_ n5_; (try clear hb); (try clear hb2); (try clear hk); (try clear hi); (try clear ho0); obtain ⟨Ao40, co40, eo40⟩ := Kd.R_slice HO400.out; subst eo40) | ((with_reducible refine gate_callee (f := 8) rfl ?_); refine goesM_ (some 56) rfl rfl Try.func8 #[.slice Ao20 t387.length co20, .slice Ao40 t398.length co40] rfl ?_; (with_reducible refine (laws_eqInt64S.calls kj11 _ _ t387 _ _ t398 true _ ?side1 ?side2 ?side3 ?side4 A31.out).mono ?_); (case side1 => exact cs ((Kd.R_reads' HO_9.out).2.2)); (case side2 => exact (Kd.R_reads' HO_9.out).2.1); (case side3 => exact cs ((Kd.R_reads' HO400.out).2.2)); (case side4 => exact (Kd.R_reads' HO400.out).2.1); rintro e w' ⟨rfl, ⟨nd, rfl⟩⟩; refine ⟨_, rfl, ?_⟩) | ((with_reducible refine gate_callee (f := 6) rfl ?_); refine goesM_ (some 60) rfl rfl Try.func6 #[.slice A2 l2.length c2] rfl ?_; (with_reducible refine (laws_toInt64S.calls kj11 _ _ l2 t402 _ ?side1 ?side2 A33.out).mono ?_); (case side1 => exact cs (Kd.C_below HR2.out HB.out)); (case side2 => exact HC2.out); rintro e w41 ⟨v403, rfl, ho0, hb⟩; refine ⟨_, rfl, ?_⟩; have n0_ := as0 (Kd.R_elder' (rs HO_7) (Kd.R_base ho0) hb); have n1_ := as0 (Kd.R_elder' (rs HO_9) (Kd.R_base ho0) hb); have n2_ := as0 (Kd.R_elder' (rs HO_10) (Kd.R_base ho0) hb); have n3_ := as0 (Kd.R_elder' (rs HO_11) (Kd.R_base ho0) hb); have n4_ := as0 (Kd.R_elder' (rs HO400) (Kd.R_base ho0) hb); have n5_ := as0 (Kd.R_lower (Kd.R_new' (Kd.R_new' (Kd.R_new' (Kd.R_new' (Kd.R_new' ho0 (Kd.R_lt (rs HO_7))) (Kd.R_lt (rs HO_9))) (Kd.R_lt (rs HO_10))) (Kd.R_lt (rs HO_11))) (Kd.R_lt (rs HO400))) (below_size (bs HB))); have n6_ := as0 (below_step (bs HB) hb); clear HO_7; clear HO_9; clear HO_10; clear HO_11; clear HO400; clear HB; have HO_7 := n0_; have HO_9 := n1_; have HO_10 := n2_; have HO_11 := n3_; have HO400 := n4_; have HO404 := n5_; have HB := n6_; clear n0_ n1_ n2_ n3_ n4_ n5_ n6_; (try clear hb); (try clear hb2); (try clear hk); (try clear hi); (try clear ho0); obtain ⟨Ao42, co42, eo42⟩ := Kd.R_slice HO404.out; subst eo42) | ((with_reducible refine gate_callee (f := 8) rfl ?_); refine goesM_ (some 61) rfl rfl Try.func8 #[.slice Ao21 t390.length co21, .slice Ao42 t402.length co42] rfl ?_; (with_reducible refine (laws_eqInt64S.calls kj11 _ _ t390 _ _ t402 true _ ?side1 ?side2 ?side3 ?side4 A34.out).mono ?_); (case side1 => exact cs ((Kd.R_reads' HO_10.out).2.2)); (case side2 => exact (Kd.R_reads' HO_10.out).2.1); (case side3 => exact cs ((Kd.R_reads' HO404.out).2.2)); (case side4 => exact (Kd.R_reads' HO404.out).2.1); rintro e w' ⟨rfl, ⟨nd, rfl⟩⟩; refine ⟨_, rfl, ?_⟩) | ((with_reducible refine gate_callee (f := 9) rfl ?_); refine goesM_ (some 65) rfl rfl Try.func9 #[.slice Ao20 t387.length co20, .int .i64 1] rfl ?_; (with_reducible refine (laws_markInt64S.calls kj11 (fun k_ => some k_ = (.slice Ao20 t387.length co20 : Value).ownBlock) (.slice Ao20 t387.length co20) t387 1 t406 t407 w _ ?side1 ?side2 A36.out).mono ?_); (case side1 => exact bs HB); (case side2 => exact Kd.R_tight rfl HO_9.out); rintro e w43 ⟨rfl, hy0, hb, hkp⟩; refine ⟨_, rfl, ?_⟩; have n0_ := as0 (Kd.R_mono (ok' := fun k_ => some k_ ≠ (.slice Ao20 t387.length co20 : Value).ownBlock ∧ some k_ ≠ (.slice Ao21 t390.length co21 : Value).ownBlock ∧ some k_ ≠ (v395 : Value).ownBlock ∧ some k_ ≠ (.slice Ao40 t398.length co40 : Value).ownBlock ∧ some k_ ≠ (.slice Ao42 t402.length co42 : Value).ownBlock) (Kd.R_keptB (HO_7.out) hkp (fun k_ hk_ hs_ => (hk_.1.1.1) hs_)) (fun k_ hk_ => ⟨hk_.1.1.1.1, hk_.1.1.1.2.1, hk_.1.1.1.2.2, hk_.1.1.2, hk_.1.2⟩)); have n1_ := as0 (Kd.R_reok rfl hy0 (fun k_ e_ => HO_9.out.1 k_ e_)); have n2_ := as0 (Kd.R_mono (ok' := fun k_ => some k_ ≠ (v385 : Value).ownBlock ∧ some k_ ≠ (.slice Ao20 t387.length co20 : Value).ownBlock ∧ some k_ ≠ (v395 : Value).ownBlock ∧ some k_ ≠ (.slice Ao40 t398.length co40 : Value).ownBlock ∧ some k_ ≠ (.slice Ao42 t402.length co42 : Value).ownBlock) (Kd.R_keptB (HO_10.out) hkp (fun k_ hk_ hs_ => (hk_.1.1.2.1) hs_)) (fun k_ hk_ => ⟨hk_.1.1.1.1, hk_.1.1.1.2.1, hk_.1.1.1.2.2, hk_.1.1.2, hk_.1.2⟩)); have n3_ := as0 (Kd.R_mono (ok' := fun k_ => some k_ ≠ (v385 : Value).ownBlock ∧ some k_ ≠ (.slice Ao20 t387.length co20 : Value).ownBlock ∧ some k_ ≠ (.slice Ao21 t390.length co21 : Value).ownBlock ∧ some k_ ≠ (.slice Ao40 t398.length co40 : Value).ownBlock ∧ some k_ ≠ (.slice Ao42 t402.length co42 : Value).ownBlock) (Kd.R_keptB (HO_11.out) hkp (fun k_ hk_ hs_ => (hk_.1.1.2.1) hs_)) (fun k_ hk_ => ⟨hk_.1.1.1.1, hk_.1.1.1.2.1, hk_.1.1.1.2.2, hk_.1.1.2, hk_.1.2⟩)); have n4_ := as0 (Kd.R_mono (ok' := fun k_ => some k_ ≠ (v385 : Value).ownBlock ∧ some k_ ≠ (.slice Ao20 t387.length co20 : Value).ownBlock ∧ some k_ ≠ (.slice Ao21 t390.length co21 : Value).ownBlock ∧ some k_ ≠ (v395 : Value).ownBlock ∧ some k_ ≠ (.slice Ao42 t402.length co42 : Value).ownBlock) (Kd.R_keptB (HO400.out) hkp (fun k_ hk_ hs_ => (hk_.1.1.1.2) hs_)) (fun k_ hk_ => ⟨hk_.1.1.1.1.1.2, hk_.1.1.1.1.2, hk_.1.1.1.2, hk_.1.1.2, hk_.1.2⟩)); have n5_ := as0 (Kd.R_mono (ok' := fun k_ => some k_ ≠ (v385 : Value).ownBlock ∧ some k_ ≠ (.slice Ao20 t387.length co20 : Value).ownBlock ∧ some k_ ≠ (.slice Ao21 t390.length co21 : Value).ownBlock ∧ some k_ ≠ (v395 : Value).ownBlock ∧ some k_ ≠ (.slice Ao40 t398.length co40 : Value).ownBlock) (Kd.R_keptB (HO404.out) hkp (fun k_ hk_ hs_ => (hk_.1.1.1.2) hs_)) (fun k_ hk_ => ⟨hk_.1.1.1.1.1.2, hk_.1.1.1.1.2, hk_.1.1.1.2, hk_.1.1.2, hk_.1.2⟩)); have n6_ := as0 (hb); clear HO_7; clear HO_9; clear HO_10; clear HO_11; clear HO400; clear HO404; clear HB; have HO_7 := n0_; have HO_9 := n1_; have HO_10 := n2_; have HO_11 := n3_; have HO400 := n4_; have HO404 := n5_; have HB := n6_; clear n0_ n1_ n2_ n3_ n4_ n5_ n6_; (try clear hb); (try clear hkp); (try clear hy0)) | ((with_reducible refine gate_callee (f := 9) rfl ?_); refine goesM_ (some 68) rfl rfl Try.func9 #[.slice Ao21 t390.length co21, .int .i64 t406] rfl ?_; (with_reducible refine (laws_markInt64S.calls kj11 (fun k_ => some k_ = (.slice Ao21 t390.length co21 : Value).ownBlock) (.slice Ao21 t390.length co21) t390 t406 t408 t409 w _ ?side1 ?side2 A37.out).mono ?_); (case side1 => exact bs HB); (case side2 => exact Kd.R_tight rfl HO_10.out); rintro e w44 ⟨rfl, hy0, hb, hkp⟩; refine ⟨_, rfl, ?_⟩; have n0_ := as0 (Kd.R_mono (ok' := fun k_ => some k_ ≠ (.slice Ao20 t387.length co20 : Value).ownBlock ∧ some k_ ≠ (.slice Ao21 t390.length co21 : Value).ownBlock ∧ some k_ ≠ (v395 : Value).ownBlock ∧ some k_ ≠ (.slice Ao40 t398.length co40 : Value).ownBlock ∧ some k_ ≠ (.slice Ao42 t402.length co42 : Value).ownBlock) (Kd.R_keptB (HO_7.out) hkp (fun k_ hk_ hs_ => (hk_.2.1) hs_)) (fun k_ hk_ => ⟨hk_.1.1, hk_.1.2.1, hk_.1.2.2.1, hk_.1.2.2.2.1, hk_.1.2.2.2.2⟩)); have n1_ := as0 (Kd.R_mono (ok' := fun k_ => some k_ ≠ (v385 : Value).ownBlock ∧ some k_ ≠ (.slice Ao21 t390.length co21 : Value).ownBlock ∧ some k_ ≠ (v395 : Value).ownBlock ∧ some k_ ≠ (.slice Ao40 t398.length co40 : Value).ownBlock ∧ some k_ ≠ (.slice Ao42 t402.length co42 : Value).ownBlock) (Kd.R_keptB (HO_9.out) hkp (fun k_ hk_ hs_ => (hk_.1.1.2.1) hs_)) (fun k_ hk_ => ⟨hk_.1.1.1.1, hk_.1.1.1.2.1, hk_.1.1.1.2.2, hk_.1.1.2, hk_.1.2⟩)); have n2_ := as0 (Kd.R_reok rfl hy0 (fun k_ e_ => HO_10.out.1 k_ e_)); have n3_ := as0 (Kd.R_mono (ok' := fun k_ => some k_ ≠ (v385 : Value).ownBlock ∧ some k_ ≠ (.slice Ao20 t387.length co20 : Value).ownBlock ∧ some k_ ≠ (.slice Ao21 t390.length co21 : Value).ownBlock ∧ some k_ ≠ (.slice Ao40 t398.length co40 : Value).ownBlock ∧ some k_ ≠ (.slice Ao42 t402.length co42 : Value).ownBlock) (Kd.R_keptB (HO_11.out) hkp (fun k_ hk_ hs_ => (hk_.2.2.1) hs_)) (fun k_ hk_ => ⟨hk_.1.1, hk_.1.2.1, hk_.1.2.2.1, hk_.1.2.2.2.1, hk_.1.2.2.2.2⟩)); have n4_ := as0 (Kd.R_mono (ok' := fun k_ => some k_ ≠ (v385 : Value).ownBlock ∧ some k_ ≠ (.slice Ao20 t387.length co20 : Value).ownBlock ∧ some k_ ≠ (.slice Ao21 t390.length co21 : Value).ownBlock ∧ some k_ ≠ (v395 : Value).ownBlock ∧ some k_ ≠ (.slice Ao42 t402.length co42 : Value).ownBlock) (Kd.R_keptB (HO400.out) hkp (fun k_ hk_ hs_ => (hk_.2.2.1) hs_)) (fun k_ hk_ => ⟨hk_.1.1, hk_.1.2.1, hk_.1.2.2.1, hk_.1.2.2.2.1, hk_.1.2.2.2.2⟩)); have n5_ := as0 (Kd.R_mono (ok' := fun k_ => some k_ ≠ (v385 : Value).ownBlock ∧ some k_ ≠ (.slice Ao20 t387.length co20 : Value).ownBlock ∧ some k_ ≠ (.slice Ao21 t390.length co21 : Value).ownBlock ∧ some k_ ≠ (v395 : Value).ownBlock ∧ some k_ ≠ (.slice Ao40 t398.length co40 : Value).ownBlock) (Kd.R_keptB (HO404.out) hkp (fun k_ hk_ hs_ => (hk_.2.2.1) hs_)) (fun k_ hk_ => ⟨hk_.1.1, hk_.1.2.1, hk_.1.2.2.1, hk_.1.2.2.2.1, hk_.1.2.2.2.2⟩)); have n6_ := as0 (hb); clear HO_7; clear HO_9; clear HO_10; clear HO_11; clear HO400; clear HO404; clear HB; have HO_7 := n0_; have HO_9 := n1_; have HO_10 := n2_; have HO_11 := n3_; have HO400 := n4_; have HO404 := n5_; have HB := n6_; clear n0_ n1_ n2_ n3_ n4_ n5_ n6_; (try clear hb); (try clear hkp); (try clear hy0)))
        (try simp only [Act.put, List.setIfInBounds_toArray, List.set_cons_zero, List.set_cons_succ])
        go_cut [81] (fun v81 wc => ∃ (kq : Nat) (x81_37 : Bool), v81 = .bool x81_37 ∧ Aside0 (laws_FnExactInterpolatePoly.j1 kq a0 l1 l2 t383 t384 t393 x81_37 = some r) ∧ Aside0 (kq ≤ kj11) ∧ Aside0 (Kd.R (Kd.int .i64) 2 wc w.heap.size (fun k_ => some k_ ≠ (v395 : Value).ownBlock) v385 t383) ∧ Aside0 (Kd.R (Kd.int .i64) 2 wc w.heap.size (fun k_ => some k_ ≠ (v385 : Value).ownBlock) v395 t393) ∧ Aside0 (Below w.heap.size w wc))
        case first =>
         have H := HC38.out
         clear HC38
         by_cases c45 : t408 < 0
         ·
          rw [if_pos c45] at H
          have c45b0 : decide (t408 < 0) = true := decide_eq_true c45
          clear c45
          (first | rw [c45b0] | (simp only [i64_w, i32_w]; rw [c45b0]) | skip)
          have H' := as0 H
          clear H
          go_wp2
          go_meet
          case rel => exact ⟨_, (true), ea_, H', ⟨by have := HJ11.out; first | omega | exact Nat.le_refl _⟩, ⟨by (with_reducible repeat (first | apply Kd.R_alloc | apply Kd.R_drewN | apply Kd.R_drew)); exact Kd.R_mono HO_7.out (fun _ hk => hk.2.2.1)⟩, ⟨by (with_reducible repeat (first | apply Kd.R_alloc | apply Kd.R_drewN | apply Kd.R_drew)); exact Kd.R_mono HO_11.out (fun _ hk => hk.1)⟩, ⟨bs HB⟩⟩
         ·
          rw [if_neg c45] at H
          have c45b0 : decide (t408 < 0) = false := decide_eq_false c45
          clear c45
          (first | rw [c45b0] | (simp only [i64_w, i32_w]; rw [c45b0]) | skip)
          replace H := Option.bind_eq_some_iff.mp H
          obtain ⟨t410, A460, H⟩ := H
          have A46 := as0 A460
          clear A460
          by_cases c47 : t410 = true
          ·
           subst c47
           have H1 : (laws_FnExactInterpolatePoly.j1 kj11 a0 l1 l2 t383 t384 t393 (t394 != t384)) = some r := by rw [if_pos rfl] at H; exact H
           clear H
           have H := H1
           clear H1
           have H' := as0 H
           clear H
           obtain ⟨Ao48, co48, eo48⟩ := Kd.R_slice HO_11.out
           subst eo48
           obtain ⟨Ao49, co49, eo49⟩ := Kd.R_slice HO_7.out
           subst eo49
           go_wp2_with (first | (go_at_call 8; (with_reducible refine (laws_eqInt64S.calls kj11 _ _ t393 _ _ t383 true _ ?side1 ?side2 ?side3 ?side4 A46.out).mono ?_); (case side1 => exact cs ((Kd.R_reads' HO_11.out).2.2)); (case side2 => exact (Kd.R_reads' HO_11.out).2.1); (case side3 => exact cs ((Kd.R_reads' HO_7.out).2.2)); (case side4 => exact (Kd.R_reads' HO_7.out).2.1); rintro e w' ⟨rfl, ⟨nd, rfl⟩⟩))
           go_meet
           case rel => exact ⟨_, ((t394 != t384)), ea_, H', ⟨by have := HJ11.out; first | omega | exact Nat.le_refl _⟩, ⟨by (with_reducible repeat (first | apply Kd.R_alloc | apply Kd.R_drewN | apply Kd.R_drew)); exact Kd.R_mono HO_7.out (fun _ hk => hk.2.2.1)⟩, ⟨by (with_reducible repeat (first | apply Kd.R_alloc | apply Kd.R_drewN | apply Kd.R_drew)); exact Kd.R_mono HO_11.out (fun _ hk => hk.1)⟩, ⟨bs HB⟩⟩
          ·
           replace c47 := Bool.eq_false_iff.mpr c47
           subst c47
           have H1 : (laws_FnExactInterpolatePoly.j1 kj11 a0 l1 l2 t383 t384 t393 true) = some r := by rw [if_neg (show ¬ (false = true) by decide)] at H; exact H
           clear H
           have H := H1
           clear H1
           have H' := as0 H
           clear H
           obtain ⟨Ao50, co50, eo50⟩ := Kd.R_slice HO_11.out
           subst eo50
           obtain ⟨Ao51, co51, eo51⟩ := Kd.R_slice HO_7.out
           subst eo51
           go_wp2_with (first | (go_at_call 8; (with_reducible refine (laws_eqInt64S.calls kj11 _ _ t393 _ _ t383 false _ ?side1 ?side2 ?side3 ?side4 A46.out).mono ?_); (case side1 => exact cs ((Kd.R_reads' HO_11.out).2.2)); (case side2 => exact (Kd.R_reads' HO_11.out).2.1); (case side3 => exact cs ((Kd.R_reads' HO_7.out).2.2)); (case side4 => exact (Kd.R_reads' HO_7.out).2.1); rintro e w' ⟨rfl, ⟨nd, rfl⟩⟩))
           go_meet
           case rel => exact ⟨_, (true), ea_, H', ⟨by have := HJ11.out; first | omega | exact Nat.le_refl _⟩, ⟨by (with_reducible repeat (first | apply Kd.R_alloc | apply Kd.R_drewN | apply Kd.R_drew)); exact Kd.R_mono HO_7.out (fun _ hk => hk.2.2.1)⟩, ⟨by (with_reducible repeat (first | apply Kd.R_alloc | apply Kd.R_drewN | apply Kd.R_drew)); exact Kd.R_mono HO_11.out (fun _ hk => hk.1)⟩, ⟨bs HB⟩⟩
        case rest =>
         clear HC38
         try clear c1
         try clear c2
         try clear p2
         try clear c3
         try clear c4
         try clear c4b0
         try clear c4b1
         try clear c5
         try clear c5b0
         try clear c5b1
         try clear c6
         try clear c7
         try clear c8
         try clear c9
         try clear c24
         try clear c29
         try clear c32
         try clear c35
         try clear c45
         try clear c45b0
         try clear c47
         try clear p2
         obtain ⟨kq, x81_37, rfl, HA, HJ37, HO_7, HO_11, HB⟩ := hcut
         cases kq with
         | zero => exact absurd HA.out (by simp [laws_FnExactInterpolatePoly.j1])
         | succ kj37 =>
          have H := HA.out
          clear HA
          simp only [laws_FnExactInterpolatePoly.j1] at H
          by_cases c52 : x81_37 = true
          ·
           subst c52
           have H1 : (some false) = some r := by rw [if_pos rfl] at H; exact H
           clear H
           have H := H1
           clear H1
           obtain rfl := Option.some.inj H
           go_wp2
           go_ret
           exact ⟨er_, bs HB⟩
          ·
           replace c52 := Bool.eq_false_iff.mpr c52
           subst c52
           have H1 : ((laws_markInt64S.f kj37 t393 1).bind fun bt411 => ((laws_heldInt64S.f kj37 bt411.2 1).bind fun t413 => (if t413 < 0 then (some false) else (if t413 = bt411.1 then ((laws_toInt64S.f kj37 l1).bind fun t414 => ((laws_toInt64S.f kj37 l2).bind fun t417 => ((impl_InterpolatePoly.f kj37 a0 t414 t417).bind fun bt420 => ((laws_eqInt64S.f kj37 bt420.1 t383).bind fun t424 => (if t424 = true then (laws_FnExactInterpolatePoly.j2 kj37 bt411.2 bt411.1 (bt420.2 != t384)) else (laws_FnExactInterpolatePoly.j2 kj37 bt411.2 bt411.1 true)))))) else (some false))))) = some r := by rw [if_neg (show ¬ (false = true) by decide)] at H; exact H
           clear H
           have H := H1
           clear H1
           replace H := Option.bind_eq_some_iff.mp H
           obtain ⟨⟨t411, t412⟩, A530, H⟩ := H
           have A53 := as0 A530
           clear A530
           replace H := Option.bind_eq_some_iff.mp H
           obtain ⟨t413, A540, H⟩ := H
           have A54 := as0 A540
           clear A540
           by_cases c55 : t413 < 0
           ·
            rw [if_pos c55] at H
            have c55b0 : decide (t413 < 0) = true := decide_eq_true c55
            clear c55
            obtain rfl := Option.some.inj H
            obtain ⟨Ao56, co56, eo56⟩ := Kd.R_slice HO_11.out
            subst eo56
            go_wp2_with (first | ((with_reducible refine gate_callee (f := 9) rfl ?_); refine goesM_ (some 84) rfl rfl Try.func9 #[.slice Ao56 t393.length co56, .int .i64 1] rfl ?_; (with_reducible refine (laws_markInt64S.calls kj37 (fun k_ => some k_ = (.slice Ao56 t393.length co56 : Value).ownBlock) (.slice Ao56 t393.length co56) t393 1 t411 t412 w _ ?side1 ?side2 A53.out).mono ?_); (case side1 => exact bs HB); (case side2 => exact Kd.R_tight rfl HO_11.out); rintro e w57 ⟨rfl, hy0, hb, hkp⟩; refine ⟨_, rfl, ?_⟩; have n0_ := as0 (Kd.R_mono (ok' := fun k_ => some k_ ≠ (.slice Ao56 t393.length co56 : Value).ownBlock) (Kd.R_keptB (HO_7.out) hkp (fun k_ hk_ hs_ => (hk_) hs_)) (fun k_ hk_ => hk_.1)); have n1_ := as0 (Kd.R_reok rfl hy0 (fun k_ e_ => HO_11.out.1 k_ e_)); have n2_ := as0 (hb); clear HO_7; clear HO_11; clear HB; have HO_7 := n0_; have HO_11 := n1_; have HB := n2_; clear n0_ n1_ n2_; (try clear hb); (try clear hkp); (try clear hy0)) | ((with_reducible refine gate_callee (f := 10) rfl ?_); refine goesL_ (some 87) rfl rfl Try.func10 (by kernel_rfl) rfl #[.slice Ao56 t412.length co56, .int .i64 1] rfl (by (try simp only [List.map_toArray, List.map_cons, List.map_nil]); first | done | (rw [show t412.length = t393.length from (Kd.R_reads' HO_11.out).1.symm] <;> rfl) | rfl | (simp only [List.length_drop, List.length_take]; rfl)) ?_; (with_reducible refine (laws_heldInt64S.calls kj37 _ _ t412 1 t413 _ ?side1 ?side2 A54.out).mono ?_); (case side1 => exact cs ((Kd.R_reads' HO_11.out).2.2)); (case side2 => rw [show t412.length = t393.length from (Kd.R_reads' HO_11.out).1.symm]; exact (Kd.R_reads' HO_11.out).2.1); rintro e w' ⟨rfl, ⟨nd, rfl⟩⟩; refine ⟨_, rfl, ?_⟩))
            go_ret
            exact ⟨er_, bs HB⟩
           ·
            rw [if_neg c55] at H
            have c55b0 : decide (t413 < 0) = false := decide_eq_false c55
            clear c55
            by_cases c58 : t413 = t411
            ·
             rw [if_pos c58] at H
             have c58b0 : (t413 == t411) = true := beq_iff_eq.mpr c58
             have c58b1 : (t413 != t411) = false := bne_eq_false_iff_eq.mpr c58
             clear c58
             replace H := Option.bind_eq_some_iff.mp H
             obtain ⟨t414, A590, H⟩ := H
             have A59 := as0 A590
             clear A590
             replace H := Option.bind_eq_some_iff.mp H
             obtain ⟨t417, A600, H⟩ := H
             have A60 := as0 A600
             clear A600
             replace H := Option.bind_eq_some_iff.mp H
             obtain ⟨⟨t420, t421⟩, A610, H⟩ := H
             have A61 := as0 A610
             clear A610
             have HC62 := as0 H
             clear H
             obtain ⟨Ao63, co63, eo63⟩ := Kd.R_slice HO_11.out
             subst eo63
             go_upto_region 29 with (first | ((with_reducible refine gate_callee (f := 9) rfl ?_); refine goesM_ (some 84) rfl rfl Try.func9 #[.slice Ao63 t393.length co63, .int .i64 1] rfl ?_; (with_reducible refine (laws_markInt64S.calls kj37 (fun k_ => some k_ = (.slice Ao63 t393.length co63 : Value).ownBlock) (.slice Ao63 t393.length co63) t393 1 t411 t412 w _ ?side1 ?side2 A53.out).mono ?_); (case side1 => exact bs HB); (case side2 => exact Kd.R_tight rfl HO_11.out); rintro e w64 ⟨rfl, hy0, hb, hkp⟩; refine ⟨_, rfl, ?_⟩; have n0_ := as0 (Kd.R_mono (ok' := fun k_ => some k_ ≠ (.slice Ao63 t393.length co63 : Value).ownBlock) (Kd.R_keptB (HO_7.out) hkp (fun k_ hk_ hs_ => (hk_) hs_)) (fun k_ hk_ => hk_.1)); have n1_ := as0 (Kd.R_reok rfl hy0 (fun k_ e_ => HO_11.out.1 k_ e_)); have n2_ := as0 (hb); clear HO_7; clear HO_11; clear HB; have HO_7 := n0_; have HO_11 := n1_; have HB := n2_; clear n0_ n1_ n2_; (try clear hb); (try clear hkp); (try clear hy0)) | ((with_reducible refine gate_callee (f := 10) rfl ?_); refine goesL_ (some 87) rfl rfl Try.func10 (by kernel_rfl) rfl #[.slice Ao63 t412.length co63, .int .i64 1] rfl (by (try simp only [List.map_toArray, List.map_cons, List.map_nil]); first | done | (rw [show t412.length = t393.length from (Kd.R_reads' HO_11.out).1.symm] <;> rfl) | rfl | (simp only [List.length_drop, List.length_take]; rfl)) ?_; (with_reducible refine (laws_heldInt64S.calls kj37 _ _ t412 1 t413 _ ?side1 ?side2 A54.out).mono ?_); (case side1 => exact cs ((Kd.R_reads' HO_11.out).2.2)); (case side2 => rw [show t412.length = t393.length from (Kd.R_reads' HO_11.out).1.symm]; exact (Kd.R_reads' HO_11.out).2.1); rintro e w' ⟨rfl, ⟨nd, rfl⟩⟩; refine ⟨_, rfl, ?_⟩) | ((with_reducible refine gate_callee (f := 6) rfl ?_); refine goesM_ (some 96) rfl rfl Try.func6 #[.slice A1 l1.length c1] rfl ?_; (with_reducible refine (laws_toInt64S.calls kj37 _ _ l1 t414 _ ?side1 ?side2 A59.out).mono ?_); (case side1 => exact cs (Kd.C_below HR1.out HB.out)); (case side2 => exact HC1.out); rintro e w65 ⟨v415, rfl, ho0, hb⟩; refine ⟨_, rfl, ?_⟩; have n0_ := as0 (Kd.R_elder' (rs HO_7) (Kd.R_base ho0) hb); have n1_ := as0 (Kd.R_elder' (rs HO_11) (Kd.R_base ho0) hb); have n2_ := as0 (Kd.R_lower (Kd.R_new' (Kd.R_new' ho0 (Kd.R_lt (rs HO_7))) (Kd.R_lt (rs HO_11))) (below_size (bs HB))); have n3_ := as0 (below_step (bs HB) hb); clear HO_7; clear HO_11; clear HB; have HO_7 := n0_; have HO_11 := n1_; have HO416 := n2_; have HB := n3_; clear n0_ n1_ n2_ n3_; (try clear hb); (try clear hb2); (try clear hk); (try clear hi); (try clear ho0)) | ((with_reducible refine gate_callee (f := 6) rfl ?_); refine goesM_ (some 98) rfl rfl Try.func6 #[.slice A2 l2.length c2] rfl ?_; (with_reducible refine (laws_toInt64S.calls kj37 _ _ l2 t417 _ ?side1 ?side2 A60.out).mono ?_); (case side1 => exact cs ((Kd.C_below HR2.out HB.out))); (case side2 => exact HC2.out); rintro e w66 ⟨v418, rfl, ho0, hb⟩; refine ⟨_, rfl, ?_⟩; have n0_ := as0 (Kd.R_elder' (rs HO_7) (Kd.R_base ho0) hb); have n1_ := as0 (Kd.R_elder' (rs HO_11) (Kd.R_base ho0) hb); have n2_ := as0 (Kd.R_elder' (rs HO416) (Kd.R_base ho0) hb); have n3_ := as0 (Kd.R_lower (Kd.R_new' (Kd.R_new' (Kd.R_new' ho0 (Kd.R_lt (rs HO_7))) (Kd.R_lt (rs HO_11))) (Kd.R_lt (rs HO416))) (below_size (bs HB))); have n4_ := as0 (below_step (bs HB) hb); clear HO_7; clear HO_11; clear HO416; clear HB; have HO_7 := n0_; have HO_11 := n1_; have HO416 := n2_; have HO419 := n3_; have HB := n4_; clear n0_ n1_ n2_ n3_ n4_; (try clear hb); (try clear hb2); (try clear hk); (try clear hi); (try clear ho0); obtain ⟨Ao67, co67, eo67⟩ := Kd.R_slice HO416.out; subst eo67; obtain ⟨Ao68, co68, eo68⟩ := Kd.R_slice HO419.out; subst eo68) | ((with_reducible refine gate_callee (f := 7) rfl ?_); refine goesM_ (some 99) rfl rfl Try.func7 #[.int .i64 a0, .slice Ao67 t414.length co67, .slice Ao68 t417.length co68] rfl ?_; (with_reducible refine (impl_InterpolatePoly.calls kj37 a0 _ _ t414 _ _ t417 t420 t421 _ ?side1 ?side2 ?side3 ?side4 A61.out).mono ?_); (case side1 => exact cs ((Kd.R_reads' HO416.out).2.2)); (case side2 => exact (Kd.R_reads' HO416.out).2.1); (case side3 => exact cs ((Kd.R_reads' HO419.out).2.2)); (case side4 => exact (Kd.R_reads' HO419.out).2.1); rintro e w69 ⟨v422, rfl, ho0, hb⟩; refine ⟨_, rfl, ?_⟩; have n0_ := as0 (Kd.R_elder' (rs HO_7) (Kd.R_base ho0) hb); have n1_ := as0 (Kd.R_elder' (rs HO_11) (Kd.R_base ho0) hb); have n2_ := as0 (Kd.R_elder' (rs HO416) (Kd.R_base ho0) hb); have n3_ := as0 (Kd.R_elder' (rs HO419) (Kd.R_base ho0) hb); have n4_ := as0 (Kd.R_lower (Kd.R_new' (Kd.R_new' (Kd.R_new' (Kd.R_new' ho0 (Kd.R_lt (rs HO_7))) (Kd.R_lt (rs HO_11))) (Kd.R_lt (rs HO416))) (Kd.R_lt (rs HO419))) (below_size (bs HB))); have n5_ := as0 (below_step (bs HB) hb); clear HO_7; clear HO_11; clear HO416; clear HO419; clear HB; have HO_7 := n0_; have HO_11 := n1_; have HO416 := n2_; have HO419 := n3_; have HO423 := n4_; have HB := n5_; clear n0_ n1_ n2_ n3_ n4_ n5_; (try clear hb); (try clear hb2); (try clear hk); (try clear hi); (try clear ho0)))
             (try simp only [Act.put, List.setIfInBounds_toArray, List.set_cons_zero, List.set_cons_succ])
             go_cut [110] (fun v110 wc => ∃ (kq : Nat) (x110_61 : Bool), v110 = .bool x110_61 ∧ Aside0 (laws_FnExactInterpolatePoly.j2 kq t412 t411 x110_61 = some r) ∧ Aside0 (kq ≤ kj37) ∧ Aside0 (Kd.R (Kd.int .i64) 2 wc w.heap.size (fun _ => True) (.slice Ao63 t393.length co63) t412) ∧ Aside0 (Below w.heap.size w wc))
             case first =>
              have H := HC62.out
              clear HC62
              replace H := Option.bind_eq_some_iff.mp H
              obtain ⟨t424, A700, H⟩ := H
              have A70 := as0 A700
              clear A700
              by_cases c71 : t424 = true
              ·
               subst c71
               have H1 : (laws_FnExactInterpolatePoly.j2 kj37 t412 t411 (t421 != t384)) = some r := by rw [if_pos rfl] at H; exact H
               clear H
               have H := H1
               clear H1
               have H' := as0 H
               clear H
               obtain ⟨Ao72, co72, eo72⟩ := Kd.R_slice HO423.out
               subst eo72
               obtain ⟨Ao73, co73, eo73⟩ := Kd.R_slice HO_7.out
               subst eo73
               go_wp2_with (first | ((with_reducible refine gate_callee (f := 8) rfl ?_); refine goesM_ (some 104) rfl rfl Try.func8 #[.slice Ao72 t420.length co72, .slice Ao73 t383.length co73] rfl ?_; (with_reducible refine (laws_eqInt64S.calls kj37 _ _ t420 _ _ t383 true _ ?side1 ?side2 ?side3 ?side4 A70.out).mono ?_); (case side1 => exact cs ((Kd.R_reads' HO423.out).2.2)); (case side2 => exact (Kd.R_reads' HO423.out).2.1); (case side3 => exact cs ((Kd.R_reads' HO_7.out).2.2)); (case side4 => exact (Kd.R_reads' HO_7.out).2.1); rintro e w' ⟨rfl, ⟨nd, rfl⟩⟩; refine ⟨_, rfl, ?_⟩))
               go_meet
               case rel => exact ⟨_, ((t421 != t384)), ea_, H', ⟨by have := HJ11.out; have := HJ37.out; first | omega | exact Nat.le_refl _⟩, ⟨by (with_reducible repeat (first | apply Kd.R_alloc | apply Kd.R_drewN | apply Kd.R_drew)); exact Kd.R_mono HO_11.out (fun _ hk => trivial)⟩, ⟨bs HB⟩⟩
              ·
               replace c71 := Bool.eq_false_iff.mpr c71
               subst c71
               have H1 : (laws_FnExactInterpolatePoly.j2 kj37 t412 t411 true) = some r := by rw [if_neg (show ¬ (false = true) by decide)] at H; exact H
               clear H
               have H := H1
               clear H1
               have H' := as0 H
               clear H
               obtain ⟨Ao74, co74, eo74⟩ := Kd.R_slice HO423.out
               subst eo74
               obtain ⟨Ao75, co75, eo75⟩ := Kd.R_slice HO_7.out
               subst eo75
               go_wp2_with (first | ((with_reducible refine gate_callee (f := 8) rfl ?_); refine goesM_ (some 104) rfl rfl Try.func8 #[.slice Ao74 t420.length co74, .slice Ao75 t383.length co75] rfl ?_; (with_reducible refine (laws_eqInt64S.calls kj37 _ _ t420 _ _ t383 false _ ?side1 ?side2 ?side3 ?side4 A70.out).mono ?_); (case side1 => exact cs ((Kd.R_reads' HO423.out).2.2)); (case side2 => exact (Kd.R_reads' HO423.out).2.1); (case side3 => exact cs ((Kd.R_reads' HO_7.out).2.2)); (case side4 => exact (Kd.R_reads' HO_7.out).2.1); rintro e w' ⟨rfl, ⟨nd, rfl⟩⟩; refine ⟨_, rfl, ?_⟩))
               go_meet
               case rel => exact ⟨_, (true), ea_, H', ⟨by have := HJ11.out; have := HJ37.out; first | omega | exact Nat.le_refl _⟩, ⟨by (with_reducible repeat (first | apply Kd.R_alloc | apply Kd.R_drewN | apply Kd.R_drew)); exact Kd.R_mono HO_11.out (fun _ hk => trivial)⟩, ⟨bs HB⟩⟩
             case rest =>
              clear HC62
              try clear c1
              try clear c2
              try clear p2
              try clear c3
              try clear c4
              try clear c4b0
              try clear c4b1
              try clear c5
              try clear c5b0
              try clear c5b1
              try clear c6
              try clear c7
              try clear c8
              try clear c9
              try clear c10
              try clear c24
              try clear c29
              try clear c32
              try clear c35
              try clear c45
              try clear c45b0
              try clear c47
              try clear c52
              try clear c55
              try clear c55b0
              try clear c58
              try clear c58b0
              try clear c58b1
              try clear c71
              try clear p2
              obtain ⟨kq, x110_61, rfl, HA, HJ61, HO_11, HB⟩ := hcut
              have hl11_61 := (Kd.R_reads' HO_11.out).1
              rw [hl11_61] at HO_11
              (try simp only [hl11_61])
              cases kq with
              | zero => exact absurd HA.out (by simp [laws_FnExactInterpolatePoly.j2])
              | succ kj61 =>
               have H := HA.out
               clear HA
               simp only [laws_FnExactInterpolatePoly.j2] at H
               by_cases c76 : x110_61 = true
               ·
                subst c76
                have H1 : (some false) = some r := by rw [if_pos rfl] at H; exact H
                clear H
                have H := H1
                clear H1
                obtain rfl := Option.some.inj H
                go_wp2
                go_ret
                exact ⟨er_, bs HB⟩
               ·
                replace c76 := Bool.eq_false_iff.mpr c76
                subst c76
                have H1 : ((laws_heldInt64S.f kj61 t412 1).bind fun t425 => (if t425 < 0 then (some false) else (if t425 = t411 then (some true) else (some false)))) = some r := by rw [if_neg (show ¬ (false = true) by decide)] at H; exact H
                clear H
                have H := H1
                clear H1
                replace H := Option.bind_eq_some_iff.mp H
                obtain ⟨t425, A770, H⟩ := H
                have A77 := as0 A770
                clear A770
                by_cases c78 : t425 < 0
                ·
                 rw [if_pos c78] at H
                 have c78b0 : decide (t425 < 0) = true := decide_eq_true c78
                 clear c78
                 obtain rfl := Option.some.inj H
                 go_wp2_with (first | ((with_reducible refine gate_callee (f := 10) rfl ?_); refine goesM_ (some 113) rfl rfl Try.func10 #[.slice Ao63 t412.length co63, .int .i64 1] rfl ?_; (with_reducible refine (laws_heldInt64S.calls kj61 _ _ t412 1 t425 _ ?side1 ?side2 A77.out).mono ?_); (case side1 => exact cs ((Kd.R_reads' HO_11.out).2.2)); (case side2 => exact (Kd.R_reads' HO_11.out).2.1); rintro e w' ⟨rfl, ⟨nd, rfl⟩⟩; refine ⟨_, rfl, ?_⟩))
                 go_ret
                 exact ⟨er_, bs HB⟩
                ·
                 rw [if_neg c78] at H
                 have c78b0 : decide (t425 < 0) = false := decide_eq_false c78
                 clear c78
                 by_cases c79 : t425 = t411
                 ·
                  rw [if_pos c79] at H
                  have c79b0 : (t425 == t411) = true := beq_iff_eq.mpr c79
                  have c79b1 : (t425 != t411) = false := bne_eq_false_iff_eq.mpr c79
                  clear c79
                  obtain rfl := Option.some.inj H
                  go_wp2_with (first | ((with_reducible refine gate_callee (f := 10) rfl ?_); refine goesM_ (some 113) rfl rfl Try.func10 #[.slice Ao63 t412.length co63, .int .i64 1] rfl ?_; (with_reducible refine (laws_heldInt64S.calls kj61 _ _ t412 1 t425 _ ?side1 ?side2 A77.out).mono ?_); (case side1 => exact cs ((Kd.R_reads' HO_11.out).2.2)); (case side2 => exact (Kd.R_reads' HO_11.out).2.1); rintro e w' ⟨rfl, ⟨nd, rfl⟩⟩; refine ⟨_, rfl, ?_⟩))
                  go_ret
                  exact ⟨er_, bs HB⟩
                 ·
                  rw [if_neg c79] at H
                  have c79b0 : (t425 == t411) = false := beq_eq_false_iff_ne.mpr c79
                  have c79b1 : (t425 != t411) = true := bne_iff_ne.mpr c79
                  obtain rfl := Option.some.inj H
                  go_wp2_with (first | ((with_reducible refine gate_callee (f := 10) rfl ?_); refine goesM_ (some 113) rfl rfl Try.func10 #[.slice Ao63 t412.length co63, .int .i64 1] rfl ?_; (with_reducible refine (laws_heldInt64S.calls kj61 _ _ t412 1 t425 _ ?side1 ?side2 A77.out).mono ?_); (case side1 => exact cs ((Kd.R_reads' HO_11.out).2.2)); (case side2 => exact (Kd.R_reads' HO_11.out).2.1); rintro e w' ⟨rfl, ⟨nd, rfl⟩⟩; refine ⟨_, rfl, ?_⟩))
                  go_ret
                  exact ⟨er_, bs HB⟩
            ·
             rw [if_neg c58] at H
             have c58b0 : (t413 == t411) = false := beq_eq_false_iff_ne.mpr c58
             have c58b1 : (t413 != t411) = true := bne_iff_ne.mpr c58
             obtain rfl := Option.some.inj H
             obtain ⟨Ao80, co80, eo80⟩ := Kd.R_slice HO_11.out
             subst eo80
             go_wp2_with (first | ((with_reducible refine gate_callee (f := 9) rfl ?_); refine goesM_ (some 84) rfl rfl Try.func9 #[.slice Ao80 t393.length co80, .int .i64 1] rfl ?_; (with_reducible refine (laws_markInt64S.calls kj37 (fun k_ => some k_ = (.slice Ao80 t393.length co80 : Value).ownBlock) (.slice Ao80 t393.length co80) t393 1 t411 t412 w _ ?side1 ?side2 A53.out).mono ?_); (case side1 => exact bs HB); (case side2 => exact Kd.R_tight rfl HO_11.out); rintro e w81 ⟨rfl, hy0, hb, hkp⟩; refine ⟨_, rfl, ?_⟩; have n0_ := as0 (Kd.R_mono (ok' := fun k_ => some k_ ≠ (.slice Ao80 t393.length co80 : Value).ownBlock) (Kd.R_keptB (HO_7.out) hkp (fun k_ hk_ hs_ => (hk_) hs_)) (fun k_ hk_ => hk_.1)); have n1_ := as0 (Kd.R_reok rfl hy0 (fun k_ e_ => HO_11.out.1 k_ e_)); have n2_ := as0 (hb); clear HO_7; clear HO_11; clear HB; have HO_7 := n0_; have HO_11 := n1_; have HB := n2_; clear n0_ n1_ n2_; (try clear hb); (try clear hkp); (try clear hy0)) | ((with_reducible refine gate_callee (f := 10) rfl ?_); refine goesL_ (some 87) rfl rfl Try.func10 (by kernel_rfl) rfl #[.slice Ao80 t412.length co80, .int .i64 1] rfl (by (try simp only [List.map_toArray, List.map_cons, List.map_nil]); first | done | (rw [show t412.length = t393.length from (Kd.R_reads' HO_11.out).1.symm] <;> rfl) | rfl | (simp only [List.length_drop, List.length_take]; rfl)) ?_; (with_reducible refine (laws_heldInt64S.calls kj37 _ _ t412 1 t413 _ ?side1 ?side2 A54.out).mono ?_); (case side1 => exact cs ((Kd.R_reads' HO_11.out).2.2)); (case side2 => rw [show t412.length = t393.length from (Kd.R_reads' HO_11.out).1.symm]; exact (Kd.R_reads' HO_11.out).2.1); rintro e w' ⟨rfl, ⟨nd, rfl⟩⟩; refine ⟨_, rfl, ?_⟩))
             go_ret
             exact ⟨er_, bs HB⟩
       ·
        replace c35 := Bool.eq_false_iff.mpr c35
        subst c35
        have H1 : (some false) = some r := by rw [if_neg (show ¬ (false = true) by decide)] at H; exact H
        clear H
        have H := H1
        clear H1
        obtain rfl := Option.some.inj H
        go_wp2_with (first | ((with_reducible refine gate_callee (f := 6) rfl ?_); refine goesM_ (some 55) rfl rfl Try.func6 #[.slice A1 l1.length c1] rfl ?_; (with_reducible refine (laws_toInt64S.calls kj11 _ _ l1 t398 _ ?side1 ?side2 A30.out).mono ?_); (case side1 => exact cs ((Kd.C_below HR1.out HB.out))); (case side2 => exact HC1.out); rintro e w82 ⟨v399, rfl, ho0, hb⟩; refine ⟨_, rfl, ?_⟩; have n0_ := as0 (Kd.R_elder' (rs HO_7) (Kd.R_base ho0) hb); have n1_ := as0 (Kd.R_elder' (rs HO_9) (Kd.R_base ho0) hb); have n2_ := as0 (Kd.R_elder' (rs HO_10) (Kd.R_base ho0) hb); have n3_ := as0 (Kd.R_elder' (rs HO_11) (Kd.R_base ho0) hb); have n4_ := as0 (Kd.R_lower (Kd.R_new' (Kd.R_new' (Kd.R_new' (Kd.R_new' ho0 (Kd.R_lt (rs HO_7))) (Kd.R_lt (rs HO_9))) (Kd.R_lt (rs HO_10))) (Kd.R_lt (rs HO_11))) (below_size (bs HB))); have n5_ := as0 (below_step (bs HB) hb); clear HO_7; clear HO_9; clear HO_10; clear HO_11; clear HB; have HO_7 := n0_; have HO_9 := n1_; have HO_10 := n2_; have HO_11 := n3_; have HO400 := n4_; have HB := n5_; clear n0_ n1_ n2_ n3_ n4_ n5_; (try clear hb); (try clear hb2); (try clear hk); (try clear hi); (try clear ho0); obtain ⟨Ao83, co83, eo83⟩ := Kd.R_slice HO400.out; subst eo83) | ((with_reducible refine gate_callee (f := 8) rfl ?_); refine goesM_ (some 56) rfl rfl Try.func8 #[.slice Ao20 t387.length co20, .slice Ao83 t398.length co83] rfl ?_; (with_reducible refine (laws_eqInt64S.calls kj11 _ _ t387 _ _ t398 true _ ?side1 ?side2 ?side3 ?side4 A31.out).mono ?_); (case side1 => exact cs ((Kd.R_reads' HO_9.out).2.2)); (case side2 => exact (Kd.R_reads' HO_9.out).2.1); (case side3 => exact cs ((Kd.R_reads' HO400.out).2.2)); (case side4 => exact (Kd.R_reads' HO400.out).2.1); rintro e w' ⟨rfl, ⟨nd, rfl⟩⟩; refine ⟨_, rfl, ?_⟩) | ((with_reducible refine gate_callee (f := 6) rfl ?_); refine goesM_ (some 60) rfl rfl Try.func6 #[.slice A2 l2.length c2] rfl ?_; (with_reducible refine (laws_toInt64S.calls kj11 _ _ l2 t402 _ ?side1 ?side2 A33.out).mono ?_); (case side1 => exact cs (Kd.C_below HR2.out HB.out)); (case side2 => exact HC2.out); rintro e w84 ⟨v403, rfl, ho0, hb⟩; refine ⟨_, rfl, ?_⟩; have n0_ := as0 (Kd.R_elder' (rs HO_7) (Kd.R_base ho0) hb); have n1_ := as0 (Kd.R_elder' (rs HO_9) (Kd.R_base ho0) hb); have n2_ := as0 (Kd.R_elder' (rs HO_10) (Kd.R_base ho0) hb); have n3_ := as0 (Kd.R_elder' (rs HO_11) (Kd.R_base ho0) hb); have n4_ := as0 (Kd.R_elder' (rs HO400) (Kd.R_base ho0) hb); have n5_ := as0 (Kd.R_lower (Kd.R_new' (Kd.R_new' (Kd.R_new' (Kd.R_new' (Kd.R_new' ho0 (Kd.R_lt (rs HO_7))) (Kd.R_lt (rs HO_9))) (Kd.R_lt (rs HO_10))) (Kd.R_lt (rs HO_11))) (Kd.R_lt (rs HO400))) (below_size (bs HB))); have n6_ := as0 (below_step (bs HB) hb); clear HO_7; clear HO_9; clear HO_10; clear HO_11; clear HO400; clear HB; have HO_7 := n0_; have HO_9 := n1_; have HO_10 := n2_; have HO_11 := n3_; have HO400 := n4_; have HO404 := n5_; have HB := n6_; clear n0_ n1_ n2_ n3_ n4_ n5_ n6_; (try clear hb); (try clear hb2); (try clear hk); (try clear hi); (try clear ho0); obtain ⟨Ao85, co85, eo85⟩ := Kd.R_slice HO404.out; subst eo85) | ((with_reducible refine gate_callee (f := 8) rfl ?_); refine goesM_ (some 61) rfl rfl Try.func8 #[.slice Ao21 t390.length co21, .slice Ao85 t402.length co85] rfl ?_; (with_reducible refine (laws_eqInt64S.calls kj11 _ _ t390 _ _ t402 false _ ?side1 ?side2 ?side3 ?side4 A34.out).mono ?_); (case side1 => exact cs ((Kd.R_reads' HO_10.out).2.2)); (case side2 => exact (Kd.R_reads' HO_10.out).2.1); (case side3 => exact cs ((Kd.R_reads' HO404.out).2.2)); (case side4 => exact (Kd.R_reads' HO404.out).2.1); rintro e w' ⟨rfl, ⟨nd, rfl⟩⟩; refine ⟨_, rfl, ?_⟩))
        go_ret
        exact ⟨er_, bs HB⟩
      ·
       replace c32 := Bool.eq_false_iff.mpr c32
       subst c32
       have H1 : (some false) = some r := by rw [if_neg (show ¬ (false = true) by decide)] at H; exact H
       clear H
       have H := H1
       clear H1
       obtain rfl := Option.some.inj H
       go_wp2_with (first | ((with_reducible refine gate_callee (f := 6) rfl ?_); refine goesM_ (some 55) rfl rfl Try.func6 #[.slice A1 l1.length c1] rfl ?_; (with_reducible refine (laws_toInt64S.calls kj11 _ _ l1 t398 _ ?side1 ?side2 A30.out).mono ?_); (case side1 => exact cs ((Kd.C_below HR1.out HB.out))); (case side2 => exact HC1.out); rintro e w86 ⟨v399, rfl, ho0, hb⟩; refine ⟨_, rfl, ?_⟩; have n0_ := as0 (Kd.R_elder' (rs HO_7) (Kd.R_base ho0) hb); have n1_ := as0 (Kd.R_elder' (rs HO_9) (Kd.R_base ho0) hb); have n2_ := as0 (Kd.R_elder' (rs HO_10) (Kd.R_base ho0) hb); have n3_ := as0 (Kd.R_elder' (rs HO_11) (Kd.R_base ho0) hb); have n4_ := as0 (Kd.R_lower (Kd.R_new' (Kd.R_new' (Kd.R_new' (Kd.R_new' ho0 (Kd.R_lt (rs HO_7))) (Kd.R_lt (rs HO_9))) (Kd.R_lt (rs HO_10))) (Kd.R_lt (rs HO_11))) (below_size (bs HB))); have n5_ := as0 (below_step (bs HB) hb); clear HO_7; clear HO_9; clear HO_10; clear HO_11; clear HB; have HO_7 := n0_; have HO_9 := n1_; have HO_10 := n2_; have HO_11 := n3_; have HO400 := n4_; have HB := n5_; clear n0_ n1_ n2_ n3_ n4_ n5_; (try clear hb); (try clear hb2); (try clear hk); (try clear hi); (try clear ho0); obtain ⟨Ao87, co87, eo87⟩ := Kd.R_slice HO400.out; subst eo87) | ((with_reducible refine gate_callee (f := 8) rfl ?_); refine goesM_ (some 56) rfl rfl Try.func8 #[.slice Ao20 t387.length co20, .slice Ao87 t398.length co87] rfl ?_; (with_reducible refine (laws_eqInt64S.calls kj11 _ _ t387 _ _ t398 false _ ?side1 ?side2 ?side3 ?side4 A31.out).mono ?_); (case side1 => exact cs ((Kd.R_reads' HO_9.out).2.2)); (case side2 => exact (Kd.R_reads' HO_9.out).2.1); (case side3 => exact cs ((Kd.R_reads' HO400.out).2.2)); (case side4 => exact (Kd.R_reads' HO400.out).2.1); rintro e w' ⟨rfl, ⟨nd, rfl⟩⟩; refine ⟨_, rfl, ?_⟩))
       go_ret
       exact ⟨er_, bs HB⟩
def laws_FnExactInterpolatePoly.Pure : Prop := ∀ (a0 : Int) (l1 : List Int) (l2 : List Int), (Lit.int .i64 a0).wf = true → l1.length ≤ maxLen → l1.length * 8 ≤ 140737488351232 → (∀ x ∈ l1, (Lit.int .i64 x).wf = true) → l2.length ≤ maxLen → l2.length * 8 ≤ 140737488351232 → (∀ x ∈ l2, (Lit.int .i64 x).wf = true) → ∃ k, laws_FnExactInterpolatePoly.f k a0 l1 l2 = some true
theorem laws_FnExactInterpolatePoly.walk (P : laws_FnExactInterpolatePoly.Pure) (a0 : Int) (a1 : Option Addr) (len1 cap1 : Nat) (z1 : List Int) (a2 : Option Addr) (len2 cap2 : Nat) (z2 : List Int) (w : World) (w0 : (Lit.int .i64 a0).wf = true) (w1 : (a1 = none ∧ len1 = 0 ∧ cap1 = 0 ∧ z1 = []) ∨ ∃ x, a1 = some x ∧ len1 ≤ cap1 ∧ cap1 ≤ maxLen ∧ z1.length = cap1 ∧ (∀ i, i < z1.length → w.cell? (x.add i) = some (.int .i64 (z1.getD i 0))) ∧ ∀ n ∈ z1, (Lit.int .i64 n).wf = true) (y1 : len1 * 8 ≤ 140737488351232) (w2 : (a2 = none ∧ len2 = 0 ∧ cap2 = 0 ∧ z2 = []) ∨ ∃ x, a2 = some x ∧ len2 ≤ cap2 ∧ cap2 ≤ maxLen ∧ z2.length = cap2 ∧ (∀ i, i < z2.length → w.cell? (x.add i) = some (.int .i64 (z2.getD i 0))) ∧ ∀ n ∈ z2, (Lit.int .i64 n).wf = true) (y2 : len2 * 8 ≤ 140737488351232) :
  Calls Try.prog 3 #[.int .i64 a0, .slice a1 len1 cap1, .slice a2 len2 cap2] w fun e w' => e = .returned (.bool true) ∧ Below w.heap.size w w' := by
 obtain ⟨l1, rfl, hr1, hm1, hw1, hc1⟩ := ReadsInt.ofRowC w1
 obtain ⟨l2, rfl, hr2, hm2, hw2, hc2⟩ := ReadsInt.ofRowC w2
 obtain ⟨k, h⟩ := P a0 l1 l2 w0 hm1 y1 hw1 hm2 y2 hw2
 refine (laws_FnExactInterpolatePoly.calls k a0 _ _ l1 _ _ l2 true w (Kd.C_of_reads (d := (0 : Int)) (h1 := fun _ => rfl) hr1) hc1 (Kd.C_of_reads (d := (0 : Int)) (h1 := fun _ => rfl) hr2) hc2 h).mono ?_
 rintro e w' ⟨rfl, hd⟩
 exact ⟨rfl, hd⟩
end Go.Proofs.Ytnigpjcnffgfgaa.H
