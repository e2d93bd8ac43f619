/- Joined texts of a claim: the printed functions and what is proved of them. -/
import Derived.Test.YtjbajagjknhpoaaYHx0
import Derived.Test.YtjbajagjknhpoaaMa1
import Derived.Test.YtjbajagjknhpoaaMa2
import Derived.Test.YtjbajagjknhpoaaMa3
import Derived.Test.YtjbajagjknhpoaaMa4
import Derived.Test.YtjbajagjknhpoaaMa5
import Derived.Test.YtjbajagjknhpoaaMa6
import Derived.Test.YtjbajagjknhpoaaMa7
import Derived.Test.YtjbajagjknhpoaaMa8
namespace Go.Proofs.Ytjbajagjknhpoaa.H
open Go.RowKit Go.Proofs.YtjbajagjknhpoaaW.PrintWords Go.Proofs.YtjbajagjknhpoaaW.PrintLast Go.Proofs.YtjbajagjknhpoaaW.PrintMore
attribute [local go_sem] max2_int min2_int max_two min_two max_three min_three max_four min_four   -- for this text's walks alone
set_option linter.unusedVariables false
set_option linter.unusedSimpArgs false
/-! ### laws_FnPolynomials: function 3 -/
mutual
def laws_FnPolynomials.j0 : Nat → List Int → Int → List Int → List Int → List Int → List Int → Int → Bool → Option (Bool)
  | 0, _, _, _, _, _, _, _, _ => none
  | k + 1, x0, x3, x4, x5, x6, x7, x8, x112 => if x112 = true then (some false) else (if x8 = 0 then ((impl_MultiplyPolys.f k x3 x6 x5).bind fun bt725 => ((impl_AddPolys.f k x3 bt725.1 x7 1).bind fun bt729 => (if bt725.2 = 0 then (if bt729.2 = 0 then ((laws_likeInts.f k bt729.1 x4).bind fun t733 => (if t733 = true then (if (x7.length : Int) ≥ (x5.length : Int) then (some false) else (laws_FnPolynomials.j1 k x0)) else (some false))) else (some false)) else (some false)))) else (laws_FnPolynomials.j1 k x0))
def laws_FnPolynomials.j1 : Nat → List Int → Option (Bool)
  | 0, _ => none
  | k + 1, x0 => (spec_DrawGcdPolys.f k x0).bind fun bt734 => ((impl_GcdPolys.f k bt734.1 bt734.2.1 bt734.2.2).bind fun bt741 => ((spec_GcdPolys.f k bt734.1 bt734.2.1 bt734.2.2).bind fun bt745 => (if bt741.2 = bt745.2 then ((laws_likeInts.f k bt741.1 bt745.1).bind fun t749 => (laws_FnPolynomials.j2 k x0 bt734.1 bt734.2.1 bt734.2.2 bt741.1 bt741.2 (!t749))) else (laws_FnPolynomials.j2 k x0 bt734.1 bt734.2.1 bt734.2.2 bt741.1 bt741.2 true))))
def laws_FnPolynomials.j2 : Nat → List Int → Int → List Int → List Int → List Int → Int → Bool → Option (Bool)
  | 0, _, _, _, _, _, _, _ => none
  | k + 1, x0, x16, x17, x18, x19, x20, x176 => if x176 = true then (some false) else (if x20 = 0 then (laws_FnPolynomials.j3 k x0 x16 x17 x18 x19 (decide ((x19.length : Int) > 0))) else (laws_FnPolynomials.j3 k x0 x16 x17 x18 x19 false))
def laws_FnPolynomials.j3 : Nat → List Int → Int → List Int → List Int → List Int → Bool → Option (Bool)
  | 0, _, _, _, _, _, _ => none
  | k + 1, x0, x16, x17, x18, x19, x183 => if x183 = true then ((impl_DividePolys.f k x16 x17 x19).bind fun bt750 => ((impl_DividePolys.f k x16 x18 x19).bind fun bt757 => (if bt750.2.2 = 0 then (if bt757.2.2 = 0 then (if (bt750.2.1.length : Int) = 0 then (if (bt757.2.1.length : Int) = 0 then (if 0 ≤ (wrap64 ((x19.length : Int) - 1)) then (if (wrap64 ((x19.length : Int) - 1)) < (x19.length : Int) then (if (rd x19 (wrap64 ((x19.length : Int) - 1))) = 1 then (laws_FnPolynomials.j4 k x0) else (some false)) else (none)) else (none)) else (some false)) else (some false)) else (some false)) else (some false)))) else (laws_FnPolynomials.j4 k x0)
def laws_FnPolynomials.j4 : Nat → List Int → Option (Bool)
  | 0, _ => none
  | k + 1, x0 => (spec_DrawMultiplyPolys.f k x0).bind fun bt765 => ((impl_MultiplyPolys.f k bt765.1 bt765.2.1 bt765.2.2).bind fun bt772 => ((spec_MultiplyPolys.f k bt765.1 bt765.2.1 bt765.2.2).bind fun bt776 => (if bt772.2 = bt776.2 then ((laws_likeInts.f k bt772.1 bt776.1).bind fun t780 => (laws_FnPolynomials.j5 k x0 bt765.1 bt765.2.1 bt765.2.2 bt772.1 bt772.2 (!t780))) else (laws_FnPolynomials.j5 k x0 bt765.1 bt765.2.1 bt765.2.2 bt772.1 bt772.2 true))))
def laws_FnPolynomials.j5 : Nat → List Int → Int → List Int → List Int → List Int → Int → Bool → Option (Bool)
  | 0, _, _, _, _, _, _, _ => none
  | k + 1, x0, x29, x30, x31, x32, x33, x253 => if x253 = true then (some false) else (if x33 = 0 then ((impl_MultiplyPolys.f k x29 x31 x30).bind fun bt781 => (if bt781.2 = 0 then ((laws_likeInts.f k bt781.1 x32).bind fun t785 => (if t785 = true then (laws_FnPolynomials.j6 k x0) else (some false))) else (some false))) else (laws_FnPolynomials.j6 k x0))
def laws_FnPolynomials.j6 : Nat → List Int → Option (Bool)
  | 0, _ => none
  | k + 1, x0 => (spec_DrawPowerPoly.f k x0).bind fun bt786 => ((impl_PowerPoly.f k bt786.1 bt786.2.1 bt786.2.2).bind fun bt791 => ((spec_PowerPoly.f k bt786.1 bt786.2.1 bt786.2.2).bind fun bt795 => ((spec_DrawMonicPoly.f k x0).bind fun bt799 => ((impl_MonicPoly.f k bt799.1 bt799.2).bind fun bt803 => ((spec_MonicPoly.f k bt799.1 bt799.2).bind fun bt807 => ((spec_DrawAddPolys.f k x0).bind fun bt811 => ((impl_AddPolys.f k bt811.1 bt811.2.1 bt811.2.2.1 bt811.2.2.2).bind fun bt819 => ((spec_AddPolys.f k bt811.1 bt811.2.1 bt811.2.2.1 bt811.2.2.2).bind fun bt823 => ((spec_DrawDerivativeOf.f k x0).bind fun bt827 => ((impl_DerivativeOf.f k bt827.1 bt827.2).bind fun bt831 => ((spec_DerivativeOf.f k bt827.1 bt827.2).bind fun bt835 => (if bt791.2 = bt795.2 then ((laws_likeInts.f k bt791.1 bt795.1).bind fun t839 => (if t839 = true then (if bt803.2 = bt807.2 then ((laws_likeInts.f k bt803.1 bt807.1).bind fun t840 => (if t840 = true then (if bt819.2 = bt823.2 then ((laws_likeInts.f k bt819.1 bt823.1).bind fun t841 => (if t841 = true then (if bt831.2 = bt835.2 then ((laws_likeInts.f k bt831.1 bt835.1).bind fun t842 => (some t842)) else (some false)) else (some false))) else (some false)) else (some false))) else (some false)) else (some false))) else (some false)))))))))))))
end
def laws_FnPolynomials.f (k : Nat) (l0 : List Int) : Option (Bool) := (laws_big.f l0).bind fun t699 => (if t699 = true then (some true) else ((spec_DrawDividePolys.f k l0).bind fun bt700 => ((impl_DividePolys.f k bt700.1 bt700.2.1 bt700.2.2).bind fun bt707 => ((spec_DividePolys.f k bt700.1 bt700.2.1 bt700.2.2).bind fun bt714 => (if bt707.2.2 = bt714.2.2 then ((laws_likeInts.f k bt707.1 bt714.1).bind fun t721 => (if t721 = true then ((laws_likeInts.f k bt707.2.1 bt714.2.1).bind fun t722 => (if t722 = true then ((impl_IsPoly.f bt700.1 bt700.2.1).bind fun t723 => ((spec_IsPoly.f k bt700.1 bt700.2.1).bind fun t724 => (laws_FnPolynomials.j0 k l0 bt700.1 bt700.2.1 bt700.2.2 bt707.1 bt707.2.1 bt707.2.2 (t723 != t724)))) else (laws_FnPolynomials.j0 k l0 bt700.1 bt700.2.1 bt700.2.2 bt707.1 bt707.2.1 bt707.2.2 true))) else (laws_FnPolynomials.j0 k l0 bt700.1 bt700.2.1 bt700.2.2 bt707.1 bt707.2.1 bt707.2.2 true))) else (laws_FnPolynomials.j0 k l0 bt700.1 bt700.2.1 bt700.2.2 bt707.1 bt707.2.1 bt707.2.2 true))))))
set_option maxHeartbeats 8000000 in
set_option maxRecDepth 100000 in
theorem laws_FnPolynomials.calls (k : Nat) (A0 : Option Addr) (c0 : Nat) (l0 : List Int) (r : Bool) (w : World) (hr0 : Kd.C (Kd.int .u8) w A0 l0.length l0) (hc0 : l0.length ≤ c0) (h : laws_FnPolynomials.f k l0 = some r) :
  Calls Try.prog 3 #[.slice A0 l0.length c0] w fun e w' => e = .returned (.bool r) ∧ Below w.heap.size w w' := by
 have HR0 := Aside0.mk hr0
 have HC0 := Aside0.mk hc0
 clear hr0 hc0
 have HB := Aside0.mk (Below.refl w.heap.size w)
 have H : ((laws_big.f l0).bind fun t699 => (if t699 = true then (some true) else ((spec_DrawDividePolys.f k l0).bind fun bt700 => ((impl_DividePolys.f k bt700.1 bt700.2.1 bt700.2.2).bind fun bt707 => ((spec_DividePolys.f k bt700.1 bt700.2.1 bt700.2.2).bind fun bt714 => (if bt707.2.2 = bt714.2.2 then ((laws_likeInts.f k bt707.1 bt714.1).bind fun t721 => (if t721 = true then ((laws_likeInts.f k bt707.2.1 bt714.2.1).bind fun t722 => (if t722 = true then ((impl_IsPoly.f bt700.1 bt700.2.1).bind fun t723 => ((spec_IsPoly.f k bt700.1 bt700.2.1).bind fun t724 => (laws_FnPolynomials.j0 k l0 bt700.1 bt700.2.1 bt700.2.2 bt707.1 bt707.2.1 bt707.2.2 (t723 != t724)))) else (laws_FnPolynomials.j0 k l0 bt700.1 bt700.2.1 bt700.2.2 bt707.1 bt707.2.1 bt707.2.2 true))) else (laws_FnPolynomials.j0 k l0 bt700.1 bt700.2.1 bt700.2.2 bt707.1 bt707.2.1 bt707.2.2 true))) else (laws_FnPolynomials.j0 k l0 bt700.1 bt700.2.1 bt700.2.2 bt707.1 bt707.2.1 bt707.2.2 true))))))) = some r := h
 clear h
 replace H := Option.bind_eq_some_iff.mp H
 obtain ⟨t699, A20, H⟩ := H
 have A2 := Aside0.mk A20
 clear A20
 by_cases c3 : t699 = true
 ·
  subst c3
  have H1 : (some true) = some r := by rw [if_pos rfl] at H; exact H
  clear H
  have H := H1
  clear H1
  obtain rfl := Option.some.inj H
  go_enter Try.func3, Try.ntmps3
  go_wp2_with (first | ((with_reducible refine gate_callee (f := 4) rfl ?_); refine goesM_ (some 66) rfl rfl Try.func4 #[.slice A0 l0.length c0] rfl ?_; (with_reducible refine (laws_big.calls _ _ l0 true _ ?side1 ?side2 A2.out).mono ?_); (case side1 => exact cs (HR0.out)); (case side2 => exact HC0.out); rintro e w' ⟨rfl, ⟨nd, rfl⟩⟩; refine ⟨_, rfl, ?_⟩))
  go_ret
  exact ⟨by first | rfl | (simp [errW_none, errW_some] <;> rfl) | (simp [*, errW_none, errW_some] <;> rfl), by repeat (first | (with_reducible first | exact HB.out | apply below_alloc | apply pw_below_drewN | apply below_drew1) | exact HB.out)⟩
 ·
  replace c3 := Bool.eq_false_iff.mpr c3
  subst c3
  have H1 : ((spec_DrawDividePolys.f k l0).bind fun bt700 => ((impl_DividePolys.f k bt700.1 bt700.2.1 bt700.2.2).bind fun bt707 => ((spec_DividePolys.f k bt700.1 bt700.2.1 bt700.2.2).bind fun bt714 => (if bt707.2.2 = bt714.2.2 then ((laws_likeInts.f k bt707.1 bt714.1).bind fun t721 => (if t721 = true then ((laws_likeInts.f k bt707.2.1 bt714.2.1).bind fun t722 => (if t722 = true then ((impl_IsPoly.f bt700.1 bt700.2.1).bind fun t723 => ((spec_IsPoly.f k bt700.1 bt700.2.1).bind fun t724 => (laws_FnPolynomials.j0 k l0 bt700.1 bt700.2.1 bt700.2.2 bt707.1 bt707.2.1 bt707.2.2 (t723 != t724)))) else (laws_FnPolynomials.j0 k l0 bt700.1 bt700.2.1 bt700.2.2 bt707.1 bt707.2.1 bt707.2.2 true))) else (laws_FnPolynomials.j0 k l0 bt700.1 bt700.2.1 bt700.2.2 bt707.1 bt707.2.1 bt707.2.2 true))) else (laws_FnPolynomials.j0 k l0 bt700.1 bt700.2.1 bt700.2.2 bt707.1 bt707.2.1 bt707.2.2 true))))) = some r := by rw [if_neg (show ¬ (false = true) by decide)] at H; exact H
  clear H
  have H := H1
  clear H1
  replace H := Option.bind_eq_some_iff.mp H
  obtain ⟨⟨t700, t701, t702⟩, A40, H⟩ := H
  have A4 := Aside0.mk A40
  clear A40
  replace H := Option.bind_eq_some_iff.mp H
  obtain ⟨⟨t707, t708, t709⟩, A50, H⟩ := H
  have A5 := Aside0.mk A50
  clear A50
  replace H := Option.bind_eq_some_iff.mp H
  obtain ⟨⟨t714, t717, t720⟩, A60, H⟩ := H
  have A6 := Aside0.mk A60
  clear A60
  have HC7 := Aside0.mk H
  clear H
  go_enter Try.func3, Try.ntmps3
  go_upto_region 6 with (first | ((with_reducible refine gate_callee (f := 4) rfl ?_); refine goesM_ (some 66) rfl rfl Try.func4 #[.slice A0 l0.length c0] rfl ?_; (with_reducible refine (laws_big.calls _ _ l0 false _ ?side1 ?side2 A2.out).mono ?_); (case side1 => exact cs (HR0.out)); (case side2 => exact HC0.out); rintro e w' ⟨rfl, ⟨nd, rfl⟩⟩; refine ⟨_, rfl, ?_⟩) | ((with_reducible refine gate_callee (f := 5) rfl ?_); refine goesM_ (some 69) rfl rfl Try.func5 #[.slice A0 l0.length c0] rfl ?_; (with_reducible refine (spec_DrawDividePolys.calls k _ _ l0 t700 t701 t702 _ ?side1 ?side2 A4.out).mono ?_); (case side1 => exact cs (HR0.out)); (case side2 => exact HC0.out); rintro e w8 ⟨v703, v705, rfl, ho0, ho1, hb⟩; refine ⟨_, rfl, ?_⟩; have n0_ := Aside0.mk (Kd.R_lower ho0 (below_size (bs HB))); have n1_ := Aside0.mk (Kd.R_lower ho1 (below_size (bs HB))); have n2_ := Aside0.mk (below_step (bs HB) hb); clear HB; have HO704 := n0_; have HO706 := n1_; have HB := n2_; clear n0_ n1_ n2_; (try clear hb); (try clear hb2); (try clear hk); (try clear hi); (try clear ho0); (try clear ho1); obtain ⟨Ao9, co9, eo9⟩ := Kd.R_slice HO704.out; subst eo9; obtain ⟨Ao10, co10, eo10⟩ := Kd.R_slice HO706.out; subst eo10) | ((with_reducible refine gate_callee (f := 6) rfl ?_); refine goesM_ (some 77) rfl rfl Try.func6 #[.int .i64 t700, .slice Ao9 t701.length co9, .slice Ao10 t702.length co10] rfl ?_; (with_reducible refine (impl_DividePolys.calls k t700 _ _ t701 _ _ t702 t707 t708 t709 _ ?side1 ?side2 ?side3 ?side4 A5.out).mono ?_); (case side1 => exact cs ((Kd.R_reads' HO704.out).2.2)); (case side2 => exact (Kd.R_reads' HO704.out).2.1); (case side3 => exact cs ((Kd.R_reads' HO706.out).2.2)); (case side4 => exact (Kd.R_reads' HO706.out).2.1); rintro e w11 ⟨v710, v712, rfl, ho0, ho1, hb⟩; refine ⟨_, rfl, ?_⟩; have n0_ := Aside0.mk (Kd.R_mono (Kd.R_told (Kd.R_told (Kd.R_old (rs HO704) hb) (Kd.R_base ho0)) (Kd.R_base ho1)) (fun _ h_ => h_.1)); have n1_ := Aside0.mk (Kd.R_mono (Kd.R_told (Kd.R_told (Kd.R_old (rs HO706) hb) (Kd.R_base ho0)) (Kd.R_base ho1)) (fun _ h_ => h_.1)); have n2_ := Aside0.mk (Kd.R_lower (Kd.R_new' (Kd.R_new' ho0 (Kd.R_lt (rs HO704))) (Kd.R_lt (rs HO706))) (below_size (bs HB))); have n3_ := Aside0.mk (Kd.R_lower (Kd.R_new' (Kd.R_new' ho1 (Kd.R_lt (rs HO704))) (Kd.R_lt (rs HO706))) (below_size (bs HB))); have n4_ := Aside0.mk (below_step (bs HB) hb); clear HO704; clear HO706; clear HB; have HO704 := n0_; have HO706 := n1_; have HO711 := n2_; have HO713 := n3_; have HB := n4_; clear n0_ n1_ n2_ n3_ n4_; (try clear hb); (try clear hb2); (try clear hk); (try clear hi); (try clear ho0); (try clear ho1)) | ((with_reducible refine gate_callee (f := 7) rfl ?_); refine goesM_ (some 85) rfl rfl Try.func7 #[.int .i64 t700, .slice Ao9 t701.length co9, .slice Ao10 t702.length co10] rfl ?_; (with_reducible refine (spec_DividePolys.calls k t700 (fun k_ => some k_ = (.slice Ao9 t701.length co9 : Value).ownBlock) _ _ t701 (fun k_ => some k_ = (.slice Ao10 t702.length co10 : Value).ownBlock) _ _ t702 t714 t717 t720 _ ?side1 ?side2 A6.out).mono ?_); (case side1 => exact Kd.R_V (Kd.R_tight rfl (HO704.out))); (case side2 => exact Kd.R_V (Kd.R_tight rfl (HO706.out))); rintro e w12 ⟨v715, v718, rfl, ho0, ho1, hb⟩; refine ⟨_, rfl, ?_⟩; have n0_ := Aside0.mk (Kd.R_mono (Kd.R_told (Kd.R_told (Kd.R_old (rs HO704) hb) (Kd.R_base ho0)) (Kd.R_base ho1)) (fun _ h_ => h_.1)); have n1_ := Aside0.mk (Kd.R_mono (Kd.R_told (Kd.R_told (Kd.R_old (rs HO706) hb) (Kd.R_base ho0)) (Kd.R_base ho1)) (fun _ h_ => h_.1)); have n2_ := Aside0.mk (Kd.R_mono (Kd.R_told (Kd.R_told (Kd.R_old (rs HO711) hb) (Kd.R_base ho0)) (Kd.R_base ho1)) (fun _ h_ => h_.1)); have n3_ := Aside0.mk (Kd.R_mono (Kd.R_told (Kd.R_told (Kd.R_old (rs HO713) hb) (Kd.R_base ho0)) (Kd.R_base ho1)) (fun _ h_ => h_.1)); have n4_ := Aside0.mk (Kd.R_lower (Kd.R_new' (Kd.R_new' (Kd.R_new' (Kd.R_new' (Kd.R_mono (ok' := fun k_ => some k_ ≠ (v718 : Value).ownBlock) ho0 (fun _ hk_ => hk_.2)) (Kd.R_lt (rs HO704))) (Kd.R_lt (rs HO706))) (Kd.R_lt (rs HO711))) (Kd.R_lt (rs HO713))) (below_size (bs HB))); have n5_ := Aside0.mk (Kd.R_lower (Kd.R_new' (Kd.R_new' (Kd.R_new' (Kd.R_new' (Kd.R_mono (ok' := fun k_ => some k_ ≠ (v715 : Value).ownBlock) ho1 (fun _ hk_ => hk_.2)) (Kd.R_lt (rs HO704))) (Kd.R_lt (rs HO706))) (Kd.R_lt (rs HO711))) (Kd.R_lt (rs HO713))) (below_size (bs HB))); have n6_ := Aside0.mk (below_step (bs HB) hb); clear HO704; clear HO706; clear HO711; clear HO713; clear HB; have HO704 := n0_; have HO706 := n1_; have HO711 := n2_; have HO713 := n3_; have HO716 := n4_; have HO719 := n5_; have HB := n6_; clear n0_ n1_ n2_ n3_ n4_ n5_ n6_; (try clear hb); (try clear hb2); (try clear hk); (try clear hi); (try clear ho0); (try clear ho1)))
  (try simp only [Act.put, List.setIfInBounds_toArray, List.set_cons_zero, List.set_cons_succ])
  go_cut [112] from 65 to 88 (fun v112 wc => ∃ (kq : Nat) (x112_6 : Bool), v112 = .bool x112_6 ∧ Aside0 (laws_FnPolynomials.j0 kq l0 t700 t701 t702 t707 t708 t709 x112_6 = some r) ∧ Aside0 (kq ≤ k) ∧ Aside0 (Kd.R (Kd.int .i64) 2 wc w.heap.size (fun k_ => some k_ ≠ ((.slice Ao10 t702.length co10) : Value).ownBlock ∧ some k_ ≠ (v710 : Value).ownBlock ∧ some k_ ≠ (v712 : Value).ownBlock) (.slice Ao9 t701.length co9) t701) ∧ Aside0 (Kd.R (Kd.int .i64) 2 wc w.heap.size (fun k_ => some k_ ≠ ((.slice Ao9 t701.length co9) : Value).ownBlock ∧ some k_ ≠ (v710 : Value).ownBlock ∧ some k_ ≠ (v712 : Value).ownBlock) (.slice Ao10 t702.length co10) t702) ∧ Aside0 (Kd.R (Kd.int .i64) 2 wc w.heap.size (fun k_ => some k_ ≠ ((.slice Ao9 t701.length co9) : Value).ownBlock ∧ some k_ ≠ ((.slice Ao10 t702.length co10) : Value).ownBlock ∧ some k_ ≠ (v712 : Value).ownBlock) v710 t707) ∧ Aside0 (Kd.R (Kd.int .i64) 2 wc w.heap.size (fun k_ => some k_ ≠ ((.slice Ao9 t701.length co9) : Value).ownBlock ∧ some k_ ≠ ((.slice Ao10 t702.length co10) : Value).ownBlock ∧ some k_ ≠ (v710 : Value).ownBlock) v712 t708) ∧ Aside0 (Below w.heap.size w wc))
  case first =>
   have H := HC7.out
   clear HC7
   by_cases c13 : t709 = t720
   ·
    rw [if_pos c13] at H
    have c13b0 : (t709 == t720) = true := beq_iff_eq.mpr c13
    have c13b1 : (t709 != t720) = false := bne_eq_false_iff_eq.mpr c13
    clear c13
    (first | rw [c13b0] | (simp only [i64_w, i32_w]; rw [c13b0]) | skip)
    replace H := Option.bind_eq_some_iff.mp H
    obtain ⟨t721, A140, H⟩ := H
    have A14 := Aside0.mk A140
    clear A140
    by_cases c15 : t721 = true
    ·
     subst c15
     have H1 : ((laws_likeInts.f k t708 t717).bind fun t722 => (if t722 = true then ((impl_IsPoly.f t700 t701).bind fun t723 => ((spec_IsPoly.f k t700 t701).bind fun t724 => (laws_FnPolynomials.j0 k l0 t700 t701 t702 t707 t708 t709 (t723 != t724)))) else (laws_FnPolynomials.j0 k l0 t700 t701 t702 t707 t708 t709 true))) = some r := by rw [if_pos rfl] at H; exact H
     clear H
     have H := H1
     clear H1
     replace H := Option.bind_eq_some_iff.mp H
     obtain ⟨t722, A160, H⟩ := H
     have A16 := Aside0.mk A160
     clear A160
     by_cases c17 : t722 = true
     ·
      subst c17
      have H1 : ((impl_IsPoly.f t700 t701).bind fun t723 => ((spec_IsPoly.f k t700 t701).bind fun t724 => (laws_FnPolynomials.j0 k l0 t700 t701 t702 t707 t708 t709 (t723 != t724)))) = some r := by rw [if_pos rfl] at H; exact H
      clear H
      have H := H1
      clear H1
      replace H := Option.bind_eq_some_iff.mp H
      obtain ⟨t723, A180, H⟩ := H
      have A18 := Aside0.mk A180
      clear A180
      replace H := Option.bind_eq_some_iff.mp H
      obtain ⟨t724, A190, H⟩ := H
      have A19 := Aside0.mk A190
      clear A190
      have H' := Aside0.mk H
      clear H
      obtain ⟨Ao20, co20, eo20⟩ := Kd.R_slice HO711.out
      subst eo20
      obtain ⟨Ao21, co21, eo21⟩ := Kd.R_slice HO716.out
      subst eo21
      go_wp2_with (first | (go_at_call 8; (with_reducible refine (laws_likeInts.calls k _ _ t707 _ _ t714 true _ ?side1 ?side2 ?side3 ?side4 A14.out).mono ?_); (case side1 => exact cs ((Kd.R_reads' HO711.out).2.2)); (case side2 => exact (Kd.R_reads' HO711.out).2.1); (case side3 => exact cs ((Kd.R_reads' HO716.out).2.2)); (case side4 => exact (Kd.R_reads' HO716.out).2.1); rintro e w' ⟨rfl, ⟨nd, rfl⟩⟩; obtain ⟨Ao22, co22, eo22⟩ := Kd.R_slice HO713.out; subst eo22; obtain ⟨Ao23, co23, eo23⟩ := Kd.R_slice HO719.out; subst eo23) | (go_at_call 8; (with_reducible refine (laws_likeInts.calls k _ _ t708 _ _ t717 true _ ?side1 ?side2 ?side3 ?side4 A16.out).mono ?_); (case side1 => exact cs ((Kd.R_reads' HO713.out).2.2)); (case side2 => exact (Kd.R_reads' HO713.out).2.1); (case side3 => exact cs ((Kd.R_reads' HO719.out).2.2)); (case side4 => exact (Kd.R_reads' HO719.out).2.1); rintro e w' ⟨rfl, ⟨nd, rfl⟩⟩) | (go_at_call 9; (with_reducible refine (impl_IsPoly.calls t700 _ _ t701 t723 _ ?side1 ?side2 A18.out).mono ?_); (case side1 => exact cs ((Kd.R_reads' HO704.out).2.2)); (case side2 => exact (Kd.R_reads' HO704.out).2.1); rintro e w24 ⟨rfl, hb⟩; have n0_ := Aside0.mk (Kd.R_below (rs HO704) hb); have n1_ := Aside0.mk (Kd.R_below (rs HO706) hb); have n2_ := Aside0.mk (Kd.R_below (rs HO711) hb); have n3_ := Aside0.mk (Kd.R_below (rs HO713) hb); have n4_ := Aside0.mk (Kd.R_below (rs HO716) hb); have n5_ := Aside0.mk (Kd.R_below (rs HO719) hb); have n6_ := Aside0.mk (below_step (bs HB) hb); clear HO704; clear HO706; clear HO711; clear HO713; clear HO716; clear HO719; clear HB; have HO704 := n0_; have HO706 := n1_; have HO711 := n2_; have HO713 := n3_; have HO716 := n4_; have HO719 := n5_; have HB := n6_; clear n0_ n1_ n2_ n3_ n4_ n5_ n6_; (try clear hb); (try clear hb2); (try clear hk); (try clear hi)) | (go_at_call 10; (with_reducible refine (spec_IsPoly.calls k t700 _ _ t701 t724 _ ?side1 ?side2 A19.out).mono ?_); (case side1 => exact cs ((Kd.R_reads' HO704.out).2.2)); (case side2 => exact (Kd.R_reads' HO704.out).2.1); rintro e w' ⟨rfl, ⟨nd, rfl⟩⟩))
      go_meet
      case rel => exact ⟨_, ((t723 != t724)), ea_, H', ⟨by first | omega | exact Nat.le_refl _⟩, ⟨by (with_reducible repeat (first | apply Kd.R_alloc | apply Kd.R_drewN | apply Kd.R_drew)); exact Kd.R_mono HO704.out (fun _ hk => ⟨hk.1.1.1.1, ⟨hk.1.1.1.2, hk.1.1.2⟩⟩)⟩, ⟨by (with_reducible repeat (first | apply Kd.R_alloc | apply Kd.R_drewN | apply Kd.R_drew)); exact Kd.R_mono HO706.out (fun _ hk => ⟨hk.1.1.1.1, ⟨hk.1.1.1.2, hk.1.1.2⟩⟩)⟩, ⟨by (with_reducible repeat (first | apply Kd.R_alloc | apply Kd.R_drewN | apply Kd.R_drew)); exact Kd.R_mono HO711.out (fun _ hk => ⟨hk.1.1.1.2, ⟨hk.1.1.2, hk.1.1.1.1⟩⟩)⟩, ⟨by (with_reducible repeat (first | apply Kd.R_alloc | apply Kd.R_drewN | apply Kd.R_drew)); exact Kd.R_mono HO713.out (fun _ hk => ⟨hk.1.1.1.2, ⟨hk.1.1.2, hk.1.1.1.1⟩⟩)⟩, ⟨by repeat (first | (with_reducible first | exact HB.out | apply below_alloc | apply pw_below_drewN | apply below_drew1) | exact HB.out)⟩⟩
     ·
      replace c17 := Bool.eq_false_iff.mpr c17
      subst c17
      have H1 : (laws_FnPolynomials.j0 k l0 t700 t701 t702 t707 t708 t709 true) = some r := by rw [if_neg (show ¬ (false = true) by decide)] at H; exact H
      clear H
      have H := H1
      clear H1
      have H' := Aside0.mk H
      clear H
      obtain ⟨Ao25, co25, eo25⟩ := Kd.R_slice HO711.out
      subst eo25
      obtain ⟨Ao26, co26, eo26⟩ := Kd.R_slice HO716.out
      subst eo26
      go_wp2_with (first | (go_at_call 8; (with_reducible refine (laws_likeInts.calls k _ _ t707 _ _ t714 true _ ?side1 ?side2 ?side3 ?side4 A14.out).mono ?_); (case side1 => exact cs ((Kd.R_reads' HO711.out).2.2)); (case side2 => exact (Kd.R_reads' HO711.out).2.1); (case side3 => exact cs ((Kd.R_reads' HO716.out).2.2)); (case side4 => exact (Kd.R_reads' HO716.out).2.1); rintro e w' ⟨rfl, ⟨nd, rfl⟩⟩; obtain ⟨Ao27, co27, eo27⟩ := Kd.R_slice HO713.out; subst eo27; obtain ⟨Ao28, co28, eo28⟩ := Kd.R_slice HO719.out; subst eo28) | (go_at_call 8; (with_reducible refine (laws_likeInts.calls k _ _ t708 _ _ t717 false _ ?side1 ?side2 ?side3 ?side4 A16.out).mono ?_); (case side1 => exact cs ((Kd.R_reads' HO713.out).2.2)); (case side2 => exact (Kd.R_reads' HO713.out).2.1); (case side3 => exact cs ((Kd.R_reads' HO719.out).2.2)); (case side4 => exact (Kd.R_reads' HO719.out).2.1); rintro e w' ⟨rfl, ⟨nd, rfl⟩⟩))
      go_meet
      case rel => exact ⟨_, (true), ea_, H', ⟨by first | omega | exact Nat.le_refl _⟩, ⟨by (with_reducible repeat (first | apply Kd.R_alloc | apply Kd.R_drewN | apply Kd.R_drew)); exact Kd.R_mono HO704.out (fun _ hk => ⟨hk.1.1.1.1, ⟨hk.1.1.1.2, hk.1.1.2⟩⟩)⟩, ⟨by (with_reducible repeat (first | apply Kd.R_alloc | apply Kd.R_drewN | apply Kd.R_drew)); exact Kd.R_mono HO706.out (fun _ hk => ⟨hk.1.1.1.1, ⟨hk.1.1.1.2, hk.1.1.2⟩⟩)⟩, ⟨by (with_reducible repeat (first | apply Kd.R_alloc | apply Kd.R_drewN | apply Kd.R_drew)); exact Kd.R_mono HO711.out (fun _ hk => ⟨hk.1.1.1.2, ⟨hk.1.1.2, hk.1.1.1.1⟩⟩)⟩, ⟨by (with_reducible repeat (first | apply Kd.R_alloc | apply Kd.R_drewN | apply Kd.R_drew)); exact Kd.R_mono HO713.out (fun _ hk => ⟨hk.1.1.1.2, ⟨hk.1.1.2, hk.1.1.1.1⟩⟩)⟩, ⟨by repeat (first | (with_reducible first | exact HB.out | apply below_alloc | apply pw_below_drewN | apply below_drew1) | exact HB.out)⟩⟩
    ·
     replace c15 := Bool.eq_false_iff.mpr c15
     subst c15
     have H1 : (laws_FnPolynomials.j0 k l0 t700 t701 t702 t707 t708 t709 true) = some r := by rw [if_neg (show ¬ (false = true) by decide)] at H; exact H
     clear H
     have H := H1
     clear H1
     have H' := Aside0.mk H
     clear H
     obtain ⟨Ao29, co29, eo29⟩ := Kd.R_slice HO711.out
     subst eo29
     obtain ⟨Ao30, co30, eo30⟩ := Kd.R_slice HO716.out
     subst eo30
     go_wp2_with (first | (go_at_call 8; (with_reducible refine (laws_likeInts.calls k _ _ t707 _ _ t714 false _ ?side1 ?side2 ?side3 ?side4 A14.out).mono ?_); (case side1 => exact cs ((Kd.R_reads' HO711.out).2.2)); (case side2 => exact (Kd.R_reads' HO711.out).2.1); (case side3 => exact cs ((Kd.R_reads' HO716.out).2.2)); (case side4 => exact (Kd.R_reads' HO716.out).2.1); rintro e w' ⟨rfl, ⟨nd, rfl⟩⟩))
     go_meet
     case rel => exact ⟨_, (true), ea_, H', ⟨by first | omega | exact Nat.le_refl _⟩, ⟨by (with_reducible repeat (first | apply Kd.R_alloc | apply Kd.R_drewN | apply Kd.R_drew)); exact Kd.R_mono HO704.out (fun _ hk => ⟨hk.1.1.1.1, ⟨hk.1.1.1.2, hk.1.1.2⟩⟩)⟩, ⟨by (with_reducible repeat (first | apply Kd.R_alloc | apply Kd.R_drewN | apply Kd.R_drew)); exact Kd.R_mono HO706.out (fun _ hk => ⟨hk.1.1.1.1, ⟨hk.1.1.1.2, hk.1.1.2⟩⟩)⟩, ⟨by (with_reducible repeat (first | apply Kd.R_alloc | apply Kd.R_drewN | apply Kd.R_drew)); exact Kd.R_mono HO711.out (fun _ hk => ⟨hk.1.1.1.2, ⟨hk.1.1.2, hk.1.1.1.1⟩⟩)⟩, ⟨by (with_reducible repeat (first | apply Kd.R_alloc | apply Kd.R_drewN | apply Kd.R_drew)); exact Kd.R_mono HO713.out (fun _ hk => ⟨hk.1.1.1.2, ⟨hk.1.1.2, hk.1.1.1.1⟩⟩)⟩, ⟨by repeat (first | (with_reducible first | exact HB.out | apply below_alloc | apply pw_below_drewN | apply below_drew1) | exact HB.out)⟩⟩
   ·
    rw [if_neg c13] at H
    have c13b0 : (t709 == t720) = false := beq_eq_false_iff_ne.mpr c13
    have c13b1 : (t709 != t720) = true := bne_iff_ne.mpr c13
    (first | rw [c13b0] | (simp only [i64_w, i32_w]; rw [c13b0]) | skip)
    have H' := Aside0.mk H
    clear H
    go_wp2
    go_meet
    case rel => exact ⟨_, (true), ea_, H', ⟨by first | omega | exact Nat.le_refl _⟩, ⟨by (with_reducible repeat (first | apply Kd.R_alloc | apply Kd.R_drewN | apply Kd.R_drew)); exact Kd.R_mono HO704.out (fun _ hk => ⟨hk.1.1.1.1, ⟨hk.1.1.1.2, hk.1.1.2⟩⟩)⟩, ⟨by (with_reducible repeat (first | apply Kd.R_alloc | apply Kd.R_drewN | apply Kd.R_drew)); exact Kd.R_mono HO706.out (fun _ hk => ⟨hk.1.1.1.1, ⟨hk.1.1.1.2, hk.1.1.2⟩⟩)⟩, ⟨by (with_reducible repeat (first | apply Kd.R_alloc | apply Kd.R_drewN | apply Kd.R_drew)); exact Kd.R_mono HO711.out (fun _ hk => ⟨hk.1.1.1.2, ⟨hk.1.1.2, hk.1.1.1.1⟩⟩)⟩, ⟨by (with_reducible repeat (first | apply Kd.R_alloc | apply Kd.R_drewN | apply Kd.R_drew)); exact Kd.R_mono HO713.out (fun _ hk => ⟨hk.1.1.1.2, ⟨hk.1.1.2, hk.1.1.1.1⟩⟩)⟩, ⟨by repeat (first | (with_reducible first | exact HB.out | apply below_alloc | apply pw_below_drewN | apply below_drew1) | exact HB.out)⟩⟩
  case rest => as_aux_lemma =>
   clear HC7
   try clear c1
   try clear p2
   try clear c3
   try clear c4
   try clear c5
   try clear c6
   try clear c7
   try clear c13
   try clear c13b0
   try clear c13b1
   try clear c15
   try clear c17
   obtain ⟨kq, x112_6, rfl, HA, HJ6, HO_4, HO_5, HO_6, HO_7, HB⟩ := hcut
   cases kq with
   | zero => exact absurd HA.out (by simp [laws_FnPolynomials.j0])
   | succ kj6 =>
    have H := HA.out
    clear HA
    simp only [laws_FnPolynomials.j0] at H
    by_cases c31 : x112_6 = true
    ·
     subst c31
     have H1 : (some false) = some r := by rw [if_pos rfl] at H; exact H
     clear H
     have H := H1
     clear H1
     obtain rfl := Option.some.inj H
     go_wp2
     go_ret
     exact ⟨by first | rfl | (simp [errW_none, errW_some] <;> rfl) | (simp [*, errW_none, errW_some] <;> rfl), by repeat (first | (with_reducible first | exact HB.out | apply below_alloc | apply pw_below_drewN | apply below_drew1) | exact HB.out)⟩
    ·
     replace c31 := Bool.eq_false_iff.mpr c31
     subst c31
     have H1 : (if t709 = 0 then ((impl_MultiplyPolys.f kj6 t700 t707 t702).bind fun bt725 => ((impl_AddPolys.f kj6 t700 bt725.1 t708 1).bind fun bt729 => (if bt725.2 = 0 then (if bt729.2 = 0 then ((laws_likeInts.f kj6 bt729.1 t701).bind fun t733 => (if t733 = true then (if (t708.length : Int) ≥ (t702.length : Int) then (some false) else (laws_FnPolynomials.j1 kj6 l0)) else (some false))) else (some false)) else (some false)))) else (laws_FnPolynomials.j1 kj6 l0)) = some r := by rw [if_neg (show ¬ (false = true) by decide)] at H; exact H
     clear H
     have H := H1
     clear H1
     have HC32 := Aside0.mk H
     clear H
     go_upto_if 114 with (fail)
     go_cut [] from 113 to 114 (fun wc => ∃ (kq : Nat), Aside0 (laws_FnPolynomials.j1 kq l0 = some r) ∧ Aside0 (kq ≤ kj6) ∧ Aside0 (Below w.heap.size w wc))
     case first =>
      have H := HC32.out
      clear HC32
      by_cases c33 : t709 = 0
      ·
       rw [if_pos c33] at H
       have c33b0 : (t709 == 0) = true := beq_iff_eq.mpr c33
       have c33b1 : (t709 != 0) = false := bne_eq_false_iff_eq.mpr c33
       clear c33
       (first | rw [c33b0] | (simp only [i64_w, i32_w]; rw [c33b0]) | skip)
       replace H := Option.bind_eq_some_iff.mp H
       obtain ⟨⟨t725, t726⟩, A340, H⟩ := H
       have A34 := Aside0.mk A340
       clear A340
       replace H := Option.bind_eq_some_iff.mp H
       obtain ⟨⟨t729, t730⟩, A350, H⟩ := H
       have A35 := Aside0.mk A350
       clear A350
       by_cases c36 : t726 = 0
       ·
        rw [if_pos c36] at H
        have c36b0 : (t726 == 0) = true := beq_iff_eq.mpr c36
        have c36b1 : (t726 != 0) = false := bne_eq_false_iff_eq.mpr c36
        clear c36
        by_cases c37 : t730 = 0
        ·
         rw [if_pos c37] at H
         have c37b0 : (t730 == 0) = true := beq_iff_eq.mpr c37
         have c37b1 : (t730 != 0) = false := bne_eq_false_iff_eq.mpr c37
         clear c37
         replace H := Option.bind_eq_some_iff.mp H
         obtain ⟨t733, A380, H⟩ := H
         have A38 := Aside0.mk A380
         clear A380
         by_cases c39 : t733 = true
         ·
          subst c39
          have H1 : (if (t708.length : Int) ≥ (t702.length : Int) then (some false) else (laws_FnPolynomials.j1 kj6 l0)) = some r := by rw [if_pos rfl] at H; exact H
          clear H
          have H := H1
          clear H1
          by_cases c40 : (t708.length : Int) ≥ (t702.length : Int)
          ·
           rw [if_pos c40] at H
           have c40b0 : decide ((t702.length : Int) ≤ (t708.length : Int)) = true := decide_eq_true c40
           have c40b1 : decide (t702.length ≤ t708.length) = true := decide_eq_true (Int.ofNat_le.mp c40)
           clear c40
           obtain rfl := Option.some.inj H
           obtain ⟨Ao41, co41, eo41⟩ := Kd.R_slice HO_6.out
           subst eo41
           go_wp2_with (first | ((with_reducible refine gate_callee (f := 11) rfl ?_); refine goesM_ (some 119) rfl rfl Try.func11 #[.int .i64 t700, .slice Ao41 t707.length co41, .slice Ao10 t702.length co10] rfl ?_; (with_reducible refine (impl_MultiplyPolys.calls kj6 t700 _ _ t707 _ _ t702 t725 t726 _ ?side1 ?side2 ?side3 ?side4 A34.out).mono ?_); (case side1 => exact cs ((Kd.R_reads' HO_6.out).2.2)); (case side2 => exact (Kd.R_reads' HO_6.out).2.1); (case side3 => exact cs ((Kd.R_reads' HO_5.out).2.2)); (case side4 => exact (Kd.R_reads' HO_5.out).2.1); rintro e w42 ⟨v727, rfl, ho0, hb⟩; refine ⟨_, rfl, ?_⟩; have n0_ := Aside0.mk (Kd.R_elder' (rs HO_4) (Kd.R_base ho0) hb); have n1_ := Aside0.mk (Kd.R_elder' (rs HO_5) (Kd.R_base ho0) hb); have n2_ := Aside0.mk (Kd.R_elder' (rs HO_6) (Kd.R_base ho0) hb); have n3_ := Aside0.mk (Kd.R_elder' (rs HO_7) (Kd.R_base ho0) hb); have n4_ := Aside0.mk (Kd.R_lower (Kd.R_new' (Kd.R_new' (Kd.R_new' (Kd.R_new' ho0 (Kd.R_lt (rs HO_4))) (Kd.R_lt (rs HO_5))) (Kd.R_lt (rs HO_6))) (Kd.R_lt (rs HO_7))) (below_size (bs HB))); have n5_ := Aside0.mk (below_step (bs HB) hb); clear HO_4; clear HO_5; clear HO_6; clear HO_7; clear HB; have HO_4 := n0_; have HO_5 := n1_; have HO_6 := n2_; have HO_7 := n3_; have HO728 := n4_; have HB := n5_; clear n0_ n1_ n2_ n3_ n4_ n5_; (try clear hb); (try clear hb2); (try clear hk); (try clear hi); (try clear ho0); obtain ⟨Ao43, co43, eo43⟩ := Kd.R_slice HO728.out; subst eo43; obtain ⟨Ao44, co44, eo44⟩ := Kd.R_slice HO_7.out; subst eo44) | ((with_reducible refine gate_callee (f := 12) rfl ?_); refine goesM_ (some 126) rfl rfl Try.func12 #[.int .i64 t700, .slice Ao43 t725.length co43, .slice Ao44 t708.length co44, .int .i64 1] rfl ?_; (with_reducible refine (impl_AddPolys.calls kj6 t700 _ _ t725 _ _ t708 1 t729 t730 _ ?side1 ?side2 ?side3 ?side4 A35.out).mono ?_); (case side1 => exact cs ((Kd.R_reads' HO728.out).2.2)); (case side2 => exact (Kd.R_reads' HO728.out).2.1); (case side3 => exact cs ((Kd.R_reads' HO_7.out).2.2)); (case side4 => exact (Kd.R_reads' HO_7.out).2.1); rintro e w45 ⟨v731, rfl, ho0, hb⟩; refine ⟨_, rfl, ?_⟩; have n0_ := Aside0.mk (Kd.R_elder' (rs HO_4) (Kd.R_base ho0) hb); have n1_ := Aside0.mk (Kd.R_elder' (rs HO_5) (Kd.R_base ho0) hb); have n2_ := Aside0.mk (Kd.R_elder' (rs HO_6) (Kd.R_base ho0) hb); have n3_ := Aside0.mk (Kd.R_elder' (rs HO_7) (Kd.R_base ho0) hb); have n4_ := Aside0.mk (Kd.R_elder' (rs HO728) (Kd.R_base ho0) hb); have n5_ := Aside0.mk (Kd.R_lower (Kd.R_new' (Kd.R_new' (Kd.R_new' (Kd.R_new' (Kd.R_new' ho0 (Kd.R_lt (rs HO_4))) (Kd.R_lt (rs HO_5))) (Kd.R_lt (rs HO_6))) (Kd.R_lt (rs HO_7))) (Kd.R_lt (rs HO728))) (below_size (bs HB))); have n6_ := Aside0.mk (below_step (bs HB) hb); clear HO_4; clear HO_5; clear HO_6; clear HO_7; clear HO728; clear HB; have HO_4 := n0_; have HO_5 := n1_; have HO_6 := n2_; have HO_7 := n3_; have HO728 := n4_; have HO732 := n5_; have HB := n6_; clear n0_ n1_ n2_ n3_ n4_ n5_ n6_; (try clear hb); (try clear hb2); (try clear hk); (try clear hi); (try clear ho0); obtain ⟨Ao46, co46, eo46⟩ := Kd.R_slice HO732.out; subst eo46) | (go_at_call 8; (with_reducible refine (laws_likeInts.calls kj6 _ _ t729 _ _ t701 true _ ?side1 ?side2 ?side3 ?side4 A38.out).mono ?_); (case side1 => exact cs ((Kd.R_reads' HO732.out).2.2)); (case side2 => exact (Kd.R_reads' HO732.out).2.1); (case side3 => exact cs ((Kd.R_reads' HO_4.out).2.2)); (case side4 => exact (Kd.R_reads' HO_4.out).2.1); rintro e w' ⟨rfl, ⟨nd, rfl⟩⟩))
           go_ret
           exact ⟨by first | rfl | (simp [errW_none, errW_some] <;> rfl) | (simp [*, errW_none, errW_some] <;> rfl), by repeat (first | (with_reducible first | exact HB.out | apply below_alloc | apply pw_below_drewN | apply below_drew1) | exact HB.out)⟩
          ·
           rw [if_neg c40] at H
           have c40b0 : decide ((t702.length : Int) ≤ (t708.length : Int)) = false := decide_eq_false c40
           have c40b1 : decide (t702.length ≤ t708.length) = false := decide_eq_false (fun h => c40 (Int.ofNat_le.mpr h))
           clear c40
           have H' := Aside0.mk H
           clear H
           obtain ⟨Ao47, co47, eo47⟩ := Kd.R_slice HO_6.out
           subst eo47
           go_wp2_with (first | ((with_reducible refine gate_callee (f := 11) rfl ?_); refine goesM_ (some 119) rfl rfl Try.func11 #[.int .i64 t700, .slice Ao47 t707.length co47, .slice Ao10 t702.length co10] rfl ?_; (with_reducible refine (impl_MultiplyPolys.calls kj6 t700 _ _ t707 _ _ t702 t725 t726 _ ?side1 ?side2 ?side3 ?side4 A34.out).mono ?_); (case side1 => exact cs ((Kd.R_reads' HO_6.out).2.2)); (case side2 => exact (Kd.R_reads' HO_6.out).2.1); (case side3 => exact cs ((Kd.R_reads' HO_5.out).2.2)); (case side4 => exact (Kd.R_reads' HO_5.out).2.1); rintro e w48 ⟨v727, rfl, ho0, hb⟩; refine ⟨_, rfl, ?_⟩; have n0_ := Aside0.mk (Kd.R_elder' (rs HO_4) (Kd.R_base ho0) hb); have n1_ := Aside0.mk (Kd.R_elder' (rs HO_5) (Kd.R_base ho0) hb); have n2_ := Aside0.mk (Kd.R_elder' (rs HO_6) (Kd.R_base ho0) hb); have n3_ := Aside0.mk (Kd.R_elder' (rs HO_7) (Kd.R_base ho0) hb); have n4_ := Aside0.mk (Kd.R_lower (Kd.R_new' (Kd.R_new' (Kd.R_new' (Kd.R_new' ho0 (Kd.R_lt (rs HO_4))) (Kd.R_lt (rs HO_5))) (Kd.R_lt (rs HO_6))) (Kd.R_lt (rs HO_7))) (below_size (bs HB))); have n5_ := Aside0.mk (below_step (bs HB) hb); clear HO_4; clear HO_5; clear HO_6; clear HO_7; clear HB; have HO_4 := n0_; have HO_5 := n1_; have HO_6 := n2_; have HO_7 := n3_; have HO728 := n4_; have HB := n5_; clear n0_ n1_ n2_ n3_ n4_ n5_; (try clear hb); (try clear hb2); (try clear hk); (try clear hi); (try clear ho0); obtain ⟨Ao49, co49, eo49⟩ := Kd.R_slice HO728.out; subst eo49; obtain ⟨Ao50, co50, eo50⟩ := Kd.R_slice HO_7.out; subst eo50) | ((with_reducible refine gate_callee (f := 12) rfl ?_); refine goesM_ (some 126) rfl rfl Try.func12 #[.int .i64 t700, .slice Ao49 t725.length co49, .slice Ao50 t708.length co50, .int .i64 1] rfl ?_; (with_reducible refine (impl_AddPolys.calls kj6 t700 _ _ t725 _ _ t708 1 t729 t730 _ ?side1 ?side2 ?side3 ?side4 A35.out).mono ?_); (case side1 => exact cs ((Kd.R_reads' HO728.out).2.2)); (case side2 => exact (Kd.R_reads' HO728.out).2.1); (case side3 => exact cs ((Kd.R_reads' HO_7.out).2.2)); (case side4 => exact (Kd.R_reads' HO_7.out).2.1); rintro e w51 ⟨v731, rfl, ho0, hb⟩; refine ⟨_, rfl, ?_⟩; have n0_ := Aside0.mk (Kd.R_elder' (rs HO_4) (Kd.R_base ho0) hb); have n1_ := Aside0.mk (Kd.R_elder' (rs HO_5) (Kd.R_base ho0) hb); have n2_ := Aside0.mk (Kd.R_elder' (rs HO_6) (Kd.R_base ho0) hb); have n3_ := Aside0.mk (Kd.R_elder' (rs HO_7) (Kd.R_base ho0) hb); have n4_ := Aside0.mk (Kd.R_elder' (rs HO728) (Kd.R_base ho0) hb); have n5_ := Aside0.mk (Kd.R_lower (Kd.R_new' (Kd.R_new' (Kd.R_new' (Kd.R_new' (Kd.R_new' ho0 (Kd.R_lt (rs HO_4))) (Kd.R_lt (rs HO_5))) (Kd.R_lt (rs HO_6))) (Kd.R_lt (rs HO_7))) (Kd.R_lt (rs HO728))) (below_size (bs HB))); have n6_ := Aside0.mk (below_step (bs HB) hb); clear HO_4; clear HO_5; clear HO_6; clear HO_7; clear HO728; clear HB; have HO_4 := n0_; have HO_5 := n1_; have HO_6 := n2_; have HO_7 := n3_; have HO728 := n4_; have HO732 := n5_; have HB := n6_; clear n0_ n1_ n2_ n3_ n4_ n5_ n6_; (try clear hb); (try clear hb2); (try clear hk); (try clear hi); (try clear ho0); obtain ⟨Ao52, co52, eo52⟩ := Kd.R_slice HO732.out; subst eo52) | (go_at_call 8; (with_reducible refine (laws_likeInts.calls kj6 _ _ t729 _ _ t701 true _ ?side1 ?side2 ?side3 ?side4 A38.out).mono ?_); (case side1 => exact cs ((Kd.R_reads' HO732.out).2.2)); (case side2 => exact (Kd.R_reads' HO732.out).2.1); (case side3 => exact cs ((Kd.R_reads' HO_4.out).2.2)); (case side4 => exact (Kd.R_reads' HO_4.out).2.1); rintro e w' ⟨rfl, ⟨nd, rfl⟩⟩))
           go_meet
           case rel => exact ⟨_, H', ⟨by have := HJ6.out; first | omega | exact Nat.le_refl _⟩, ⟨by repeat (first | (with_reducible first | exact HB.out | apply below_alloc | apply pw_below_drewN | apply below_drew1) | exact HB.out)⟩⟩
         ·
          replace c39 := Bool.eq_false_iff.mpr c39
          subst c39
          have H1 : (some false) = some r := by rw [if_neg (show ¬ (false = true) by decide)] at H; exact H
          clear H
          have H := H1
          clear H1
          obtain rfl := Option.some.inj H
          obtain ⟨Ao53, co53, eo53⟩ := Kd.R_slice HO_6.out
          subst eo53
          go_wp2_with (first | ((with_reducible refine gate_callee (f := 11) rfl ?_); refine goesM_ (some 119) rfl rfl Try.func11 #[.int .i64 t700, .slice Ao53 t707.length co53, .slice Ao10 t702.length co10] rfl ?_; (with_reducible refine (impl_MultiplyPolys.calls kj6 t700 _ _ t707 _ _ t702 t725 t726 _ ?side1 ?side2 ?side3 ?side4 A34.out).mono ?_); (case side1 => exact cs ((Kd.R_reads' HO_6.out).2.2)); (case side2 => exact (Kd.R_reads' HO_6.out).2.1); (case side3 => exact cs ((Kd.R_reads' HO_5.out).2.2)); (case side4 => exact (Kd.R_reads' HO_5.out).2.1); rintro e w54 ⟨v727, rfl, ho0, hb⟩; refine ⟨_, rfl, ?_⟩; have n0_ := Aside0.mk (Kd.R_elder' (rs HO_4) (Kd.R_base ho0) hb); have n1_ := Aside0.mk (Kd.R_elder' (rs HO_5) (Kd.R_base ho0) hb); have n2_ := Aside0.mk (Kd.R_elder' (rs HO_6) (Kd.R_base ho0) hb); have n3_ := Aside0.mk (Kd.R_elder' (rs HO_7) (Kd.R_base ho0) hb); have n4_ := Aside0.mk (Kd.R_lower (Kd.R_new' (Kd.R_new' (Kd.R_new' (Kd.R_new' ho0 (Kd.R_lt (rs HO_4))) (Kd.R_lt (rs HO_5))) (Kd.R_lt (rs HO_6))) (Kd.R_lt (rs HO_7))) (below_size (bs HB))); have n5_ := Aside0.mk (below_step (bs HB) hb); clear HO_4; clear HO_5; clear HO_6; clear HO_7; clear HB; have HO_4 := n0_; have HO_5 := n1_; have HO_6 := n2_; have HO_7 := n3_; have HO728 := n4_; have HB := n5_; clear n0_ n1_ n2_ n3_ n4_ n5_; (try clear hb); (try clear hb2); (try clear hk); (try clear hi); (try clear ho0); obtain ⟨Ao55, co55, eo55⟩ := Kd.R_slice HO728.out; subst eo55; obtain ⟨Ao56, co56, eo56⟩ := Kd.R_slice HO_7.out; subst eo56) | ((with_reducible refine gate_callee (f := 12) rfl ?_); refine goesM_ (some 126) rfl rfl Try.func12 #[.int .i64 t700, .slice Ao55 t725.length co55, .slice Ao56 t708.length co56, .int .i64 1] rfl ?_; (with_reducible refine (impl_AddPolys.calls kj6 t700 _ _ t725 _ _ t708 1 t729 t730 _ ?side1 ?side2 ?side3 ?side4 A35.out).mono ?_); (case side1 => exact cs ((Kd.R_reads' HO728.out).2.2)); (case side2 => exact (Kd.R_reads' HO728.out).2.1); (case side3 => exact cs ((Kd.R_reads' HO_7.out).2.2)); (case side4 => exact (Kd.R_reads' HO_7.out).2.1); rintro e w57 ⟨v731, rfl, ho0, hb⟩; refine ⟨_, rfl, ?_⟩; have n0_ := Aside0.mk (Kd.R_elder' (rs HO_4) (Kd.R_base ho0) hb); have n1_ := Aside0.mk (Kd.R_elder' (rs HO_5) (Kd.R_base ho0) hb); have n2_ := Aside0.mk (Kd.R_elder' (rs HO_6) (Kd.R_base ho0) hb); have n3_ := Aside0.mk (Kd.R_elder' (rs HO_7) (Kd.R_base ho0) hb); have n4_ := Aside0.mk (Kd.R_elder' (rs HO728) (Kd.R_base ho0) hb); have n5_ := Aside0.mk (Kd.R_lower (Kd.R_new' (Kd.R_new' (Kd.R_new' (Kd.R_new' (Kd.R_new' ho0 (Kd.R_lt (rs HO_4))) (Kd.R_lt (rs HO_5))) (Kd.R_lt (rs HO_6))) (Kd.R_lt (rs HO_7))) (Kd.R_lt (rs HO728))) (below_size (bs HB))); have n6_ := Aside0.mk (below_step (bs HB) hb); clear HO_4; clear HO_5; clear HO_6; clear HO_7; clear HO728; clear HB; have HO_4 := n0_; have HO_5 := n1_; have HO_6 := n2_; have HO_7 := n3_; have HO728 := n4_; have HO732 := n5_; have HB := n6_; clear n0_ n1_ n2_ n3_ n4_ n5_ n6_; (try clear hb); (try clear hb2); (try clear hk); (try clear hi); (try clear ho0); obtain ⟨Ao58, co58, eo58⟩ := Kd.R_slice HO732.out; subst eo58) | (go_at_call 8; (with_reducible refine (laws_likeInts.calls kj6 _ _ t729 _ _ t701 false _ ?side1 ?side2 ?side3 ?side4 A38.out).mono ?_); (case side1 => exact cs ((Kd.R_reads' HO732.out).2.2)); (case side2 => exact (Kd.R_reads' HO732.out).2.1); (case side3 => exact cs ((Kd.R_reads' HO_4.out).2.2)); (case side4 => exact (Kd.R_reads' HO_4.out).2.1); rintro e w' ⟨rfl, ⟨nd, rfl⟩⟩))
          go_ret
          exact ⟨by first | rfl | (simp [errW_none, errW_some] <;> rfl) | (simp [*, errW_none, errW_some] <;> rfl), by repeat (first | (with_reducible first | exact HB.out | apply below_alloc | apply pw_below_drewN | apply below_drew1) | exact HB.out)⟩
        ·
         rw [if_neg c37] at H
         have c37b0 : (t730 == 0) = false := beq_eq_false_iff_ne.mpr c37
         have c37b1 : (t730 != 0) = true := bne_iff_ne.mpr c37
         obtain rfl := Option.some.inj H
         obtain ⟨Ao59, co59, eo59⟩ := Kd.R_slice HO_6.out
         subst eo59
         go_wp2_with (first | ((with_reducible refine gate_callee (f := 11) rfl ?_); refine goesM_ (some 119) rfl rfl Try.func11 #[.int .i64 t700, .slice Ao59 t707.length co59, .slice Ao10 t702.length co10] rfl ?_; (with_reducible refine (impl_MultiplyPolys.calls kj6 t700 _ _ t707 _ _ t702 t725 t726 _ ?side1 ?side2 ?side3 ?side4 A34.out).mono ?_); (case side1 => exact cs ((Kd.R_reads' HO_6.out).2.2)); (case side2 => exact (Kd.R_reads' HO_6.out).2.1); (case side3 => exact cs ((Kd.R_reads' HO_5.out).2.2)); (case side4 => exact (Kd.R_reads' HO_5.out).2.1); rintro e w60 ⟨v727, rfl, ho0, hb⟩; refine ⟨_, rfl, ?_⟩; have n0_ := Aside0.mk (Kd.R_elder' (rs HO_4) (Kd.R_base ho0) hb); have n1_ := Aside0.mk (Kd.R_elder' (rs HO_5) (Kd.R_base ho0) hb); have n2_ := Aside0.mk (Kd.R_elder' (rs HO_6) (Kd.R_base ho0) hb); have n3_ := Aside0.mk (Kd.R_elder' (rs HO_7) (Kd.R_base ho0) hb); have n4_ := Aside0.mk (Kd.R_lower (Kd.R_new' (Kd.R_new' (Kd.R_new' (Kd.R_new' ho0 (Kd.R_lt (rs HO_4))) (Kd.R_lt (rs HO_5))) (Kd.R_lt (rs HO_6))) (Kd.R_lt (rs HO_7))) (below_size (bs HB))); have n5_ := Aside0.mk (below_step (bs HB) hb); clear HO_4; clear HO_5; clear HO_6; clear HO_7; clear HB; have HO_4 := n0_; have HO_5 := n1_; have HO_6 := n2_; have HO_7 := n3_; have HO728 := n4_; have HB := n5_; clear n0_ n1_ n2_ n3_ n4_ n5_; (try clear hb); (try clear hb2); (try clear hk); (try clear hi); (try clear ho0); obtain ⟨Ao61, co61, eo61⟩ := Kd.R_slice HO728.out; subst eo61; obtain ⟨Ao62, co62, eo62⟩ := Kd.R_slice HO_7.out; subst eo62) | ((with_reducible refine gate_callee (f := 12) rfl ?_); refine goesM_ (some 126) rfl rfl Try.func12 #[.int .i64 t700, .slice Ao61 t725.length co61, .slice Ao62 t708.length co62, .int .i64 1] rfl ?_; (with_reducible refine (impl_AddPolys.calls kj6 t700 _ _ t725 _ _ t708 1 t729 t730 _ ?side1 ?side2 ?side3 ?side4 A35.out).mono ?_); (case side1 => exact cs ((Kd.R_reads' HO728.out).2.2)); (case side2 => exact (Kd.R_reads' HO728.out).2.1); (case side3 => exact cs ((Kd.R_reads' HO_7.out).2.2)); (case side4 => exact (Kd.R_reads' HO_7.out).2.1); rintro e w63 ⟨v731, rfl, ho0, hb⟩; refine ⟨_, rfl, ?_⟩; have n0_ := Aside0.mk (Kd.R_elder' (rs HO_4) (Kd.R_base ho0) hb); have n1_ := Aside0.mk (Kd.R_elder' (rs HO_5) (Kd.R_base ho0) hb); have n2_ := Aside0.mk (Kd.R_elder' (rs HO_6) (Kd.R_base ho0) hb); have n3_ := Aside0.mk (Kd.R_elder' (rs HO_7) (Kd.R_base ho0) hb); have n4_ := Aside0.mk (Kd.R_elder' (rs HO728) (Kd.R_base ho0) hb); have n5_ := Aside0.mk (Kd.R_lower (Kd.R_new' (Kd.R_new' (Kd.R_new' (Kd.R_new' (Kd.R_new' ho0 (Kd.R_lt (rs HO_4))) (Kd.R_lt (rs HO_5))) (Kd.R_lt (rs HO_6))) (Kd.R_lt (rs HO_7))) (Kd.R_lt (rs HO728))) (below_size (bs HB))); have n6_ := Aside0.mk (below_step (bs HB) hb); clear HO_4; clear HO_5; clear HO_6; clear HO_7; clear HO728; clear HB; have HO_4 := n0_; have HO_5 := n1_; have HO_6 := n2_; have HO_7 := n3_; have HO728 := n4_; have HO732 := n5_; have HB := n6_; clear n0_ n1_ n2_ n3_ n4_ n5_ n6_; (try clear hb); (try clear hb2); (try clear hk); (try clear hi); (try clear ho0)))
         go_ret
         exact ⟨by first | rfl | (simp [errW_none, errW_some] <;> rfl) | (simp [*, errW_none, errW_some] <;> rfl), by repeat (first | (with_reducible first | exact HB.out | apply below_alloc | apply pw_below_drewN | apply below_drew1) | exact HB.out)⟩
       ·
        rw [if_neg c36] at H
        have c36b0 : (t726 == 0) = false := beq_eq_false_iff_ne.mpr c36
        have c36b1 : (t726 != 0) = true := bne_iff_ne.mpr c36
        obtain rfl := Option.some.inj H
        obtain ⟨Ao64, co64, eo64⟩ := Kd.R_slice HO_6.out
        subst eo64
        go_wp2_with (first | ((with_reducible refine gate_callee (f := 11) rfl ?_); refine goesM_ (some 119) rfl rfl Try.func11 #[.int .i64 t700, .slice Ao64 t707.length co64, .slice Ao10 t702.length co10] rfl ?_; (with_reducible refine (impl_MultiplyPolys.calls kj6 t700 _ _ t707 _ _ t702 t725 t726 _ ?side1 ?side2 ?side3 ?side4 A34.out).mono ?_); (case side1 => exact cs ((Kd.R_reads' HO_6.out).2.2)); (case side2 => exact (Kd.R_reads' HO_6.out).2.1); (case side3 => exact cs ((Kd.R_reads' HO_5.out).2.2)); (case side4 => exact (Kd.R_reads' HO_5.out).2.1); rintro e w65 ⟨v727, rfl, ho0, hb⟩; refine ⟨_, rfl, ?_⟩; have n0_ := Aside0.mk (Kd.R_elder' (rs HO_4) (Kd.R_base ho0) hb); have n1_ := Aside0.mk (Kd.R_elder' (rs HO_5) (Kd.R_base ho0) hb); have n2_ := Aside0.mk (Kd.R_elder' (rs HO_6) (Kd.R_base ho0) hb); have n3_ := Aside0.mk (Kd.R_elder' (rs HO_7) (Kd.R_base ho0) hb); have n4_ := Aside0.mk (Kd.R_lower (Kd.R_new' (Kd.R_new' (Kd.R_new' (Kd.R_new' ho0 (Kd.R_lt (rs HO_4))) (Kd.R_lt (rs HO_5))) (Kd.R_lt (rs HO_6))) (Kd.R_lt (rs HO_7))) (below_size (bs HB))); have n5_ := Aside0.mk (below_step (bs HB) hb); clear HO_4; clear HO_5; clear HO_6; clear HO_7; clear HB; have HO_4 := n0_; have HO_5 := n1_; have HO_6 := n2_; have HO_7 := n3_; have HO728 := n4_; have HB := n5_; clear n0_ n1_ n2_ n3_ n4_ n5_; (try clear hb); (try clear hb2); (try clear hk); (try clear hi); (try clear ho0); obtain ⟨Ao66, co66, eo66⟩ := Kd.R_slice HO728.out; subst eo66; obtain ⟨Ao67, co67, eo67⟩ := Kd.R_slice HO_7.out; subst eo67) | ((with_reducible refine gate_callee (f := 12) rfl ?_); refine goesM_ (some 126) rfl rfl Try.func12 #[.int .i64 t700, .slice Ao66 t725.length co66, .slice Ao67 t708.length co67, .int .i64 1] rfl ?_; (with_reducible refine (impl_AddPolys.calls kj6 t700 _ _ t725 _ _ t708 1 t729 t730 _ ?side1 ?side2 ?side3 ?side4 A35.out).mono ?_); (case side1 => exact cs ((Kd.R_reads' HO728.out).2.2)); (case side2 => exact (Kd.R_reads' HO728.out).2.1); (case side3 => exact cs ((Kd.R_reads' HO_7.out).2.2)); (case side4 => exact (Kd.R_reads' HO_7.out).2.1); rintro e w68 ⟨v731, rfl, ho0, hb⟩; refine ⟨_, rfl, ?_⟩; have n0_ := Aside0.mk (Kd.R_elder' (rs HO_4) (Kd.R_base ho0) hb); have n1_ := Aside0.mk (Kd.R_elder' (rs HO_5) (Kd.R_base ho0) hb); have n2_ := Aside0.mk (Kd.R_elder' (rs HO_6) (Kd.R_base ho0) hb); have n3_ := Aside0.mk (Kd.R_elder' (rs HO_7) (Kd.R_base ho0) hb); have n4_ := Aside0.mk (Kd.R_elder' (rs HO728) (Kd.R_base ho0) hb); have n5_ := Aside0.mk (Kd.R_lower (Kd.R_new' (Kd.R_new' (Kd.R_new' (Kd.R_new' (Kd.R_new' ho0 (Kd.R_lt (rs HO_4))) (Kd.R_lt (rs HO_5))) (Kd.R_lt (rs HO_6))) (Kd.R_lt (rs HO_7))) (Kd.R_lt (rs HO728))) (below_size (bs HB))); have n6_ := Aside0.mk (below_step (bs HB) hb); clear HO_4; clear HO_5; clear HO_6; clear HO_7; clear HO728; clear HB; have HO_4 := n0_; have HO_5 := n1_; have HO_6 := n2_; have HO_7 := n3_; have HO728 := n4_; have HO732 := n5_; have HB := n6_; clear n0_ n1_ n2_ n3_ n4_ n5_ n6_; (try clear hb); (try clear hb2); (try clear hk); (try clear hi); (try clear ho0)))
        go_ret
        exact ⟨by first | rfl | (simp [errW_none, errW_some] <;> rfl) | (simp [*, errW_none, errW_some] <;> rfl), by repeat (first | (with_reducible first | exact HB.out | apply below_alloc | apply pw_below_drewN | apply below_drew1) | exact HB.out)⟩
      ·
       rw [if_neg c33] at H
       have c33b0 : (t709 == 0) = false := beq_eq_false_iff_ne.mpr c33
       have c33b1 : (t709 != 0) = true := bne_iff_ne.mpr c33
       (first | rw [c33b0] | (simp only [i64_w, i32_w]; rw [c33b0]) | skip)
       have H' := Aside0.mk H
       clear H
       go_wp2
       go_meet
       case rel => exact ⟨_, H', ⟨by have := HJ6.out; first | omega | exact Nat.le_refl _⟩, ⟨by repeat (first | (with_reducible first | exact HB.out | apply below_alloc | apply pw_below_drewN | apply below_drew1) | exact HB.out)⟩⟩
     case rest => as_aux_lemma =>
      clear HC32
      try clear c1
      try clear p2
      try clear c3
      try clear c4
      try clear c5
      try clear c6
      try clear c7
      try clear c11
      try clear c12
      try clear c13
      try clear c13b0
      try clear c13b1
      try clear c15
      try clear c17
      try clear c31
      try clear c33
      try clear c33b0
      try clear c33b1
      try clear c36
      try clear c36b0
      try clear c36b1
      try clear c37
      try clear c37b0
      try clear c37b1
      try clear c39
      try clear c40
      try clear c40b0
      try clear c40b1
      try clear p2
      obtain ⟨kq, HA, HJ31, HB⟩ := hcut
      cases kq with
      | zero => exact absurd HA.out (by simp [laws_FnPolynomials.j1])
      | succ kj31 =>
       have H := HA.out
       clear HA
       simp only [laws_FnPolynomials.j1] at H
       replace H := Option.bind_eq_some_iff.mp H
       obtain ⟨⟨t734, t735, t736⟩, A690, H⟩ := H
       have A69 := Aside0.mk A690
       clear A690
       replace H := Option.bind_eq_some_iff.mp H
       obtain ⟨⟨t741, t742⟩, A700, H⟩ := H
       have A70 := Aside0.mk A700
       clear A700
       replace H := Option.bind_eq_some_iff.mp H
       obtain ⟨⟨t745, t748⟩, A710, H⟩ := H
       have A71 := Aside0.mk A710
       clear A710
       have HC72 := Aside0.mk H
       clear H
       go_upto_region 16 with (first | ((with_reducible refine gate_callee (f := 13) rfl ?_); refine goesM_ (some 150) rfl rfl Try.func13 #[.slice A0 l0.length c0] rfl ?_; (with_reducible refine (spec_DrawGcdPolys.calls kj31 _ _ l0 t734 t735 t736 _ ?side1 ?side2 A69.out).mono ?_); (case side1 => exact cs ((Kd.C_below HR0.out HB.out))); (case side2 => exact HC0.out); rintro e w73 ⟨v737, v739, rfl, ho0, ho1, hb⟩; refine ⟨_, rfl, ?_⟩; have n0_ := Aside0.mk (Kd.R_lower ho0 (below_size (bs HB))); have n1_ := Aside0.mk (Kd.R_lower ho1 (below_size (bs HB))); have n2_ := Aside0.mk (below_step (bs HB) hb); clear HB; have HO738 := n0_; have HO740 := n1_; have HB := n2_; clear n0_ n1_ n2_; (try clear hb); (try clear hb2); (try clear hk); (try clear hi); (try clear ho0); (try clear ho1); obtain ⟨Ao74, co74, eo74⟩ := Kd.R_slice HO738.out; subst eo74; obtain ⟨Ao75, co75, eo75⟩ := Kd.R_slice HO740.out; subst eo75) | ((with_reducible refine gate_callee (f := 14) rfl ?_); refine goesM_ (some 158) rfl rfl Try.func14 #[.int .i64 t734, .slice Ao74 t735.length co74, .slice Ao75 t736.length co75] rfl ?_; (with_reducible refine (impl_GcdPolys.calls kj31 t734 _ _ t735 _ _ t736 t741 t742 _ ?side1 ?side2 ?side3 ?side4 A70.out).mono ?_); (case side1 => exact cs ((Kd.R_reads' HO738.out).2.2)); (case side2 => exact (Kd.R_reads' HO738.out).2.1); (case side3 => exact cs ((Kd.R_reads' HO740.out).2.2)); (case side4 => exact (Kd.R_reads' HO740.out).2.1); rintro e w76 ⟨v743, rfl, ho0, hb⟩; refine ⟨_, rfl, ?_⟩; have n0_ := Aside0.mk (Kd.R_elder' (rs HO738) (Kd.R_base ho0) hb); have n1_ := Aside0.mk (Kd.R_elder' (rs HO740) (Kd.R_base ho0) hb); have n2_ := Aside0.mk (Kd.R_lower (Kd.R_new' (Kd.R_new' ho0 (Kd.R_lt (rs HO738))) (Kd.R_lt (rs HO740))) (below_size (bs HB))); have n3_ := Aside0.mk (below_step (bs HB) hb); clear HO738; clear HO740; clear HB; have HO738 := n0_; have HO740 := n1_; have HO744 := n2_; have HB := n3_; clear n0_ n1_ n2_ n3_; (try clear hb); (try clear hb2); (try clear hk); (try clear hi); (try clear ho0)) | ((with_reducible refine gate_callee (f := 15) rfl ?_); refine goesM_ (some 165) rfl rfl Try.func15 #[.int .i64 t734, .slice Ao74 t735.length co74, .slice Ao75 t736.length co75] rfl ?_; (with_reducible refine (spec_GcdPolys.calls kj31 t734 (fun k_ => some k_ = (.slice Ao74 t735.length co74 : Value).ownBlock) _ _ t735 (fun k_ => some k_ = (.slice Ao75 t736.length co75 : Value).ownBlock) _ _ t736 t745 t748 _ ?side1 ?side2 A71.out).mono ?_); (case side1 => exact Kd.R_V (Kd.R_tight rfl (HO738.out))); (case side2 => exact Kd.R_V (Kd.R_tight rfl (HO740.out))); rintro e w77 ⟨v746, rfl, ho0, hb⟩; refine ⟨_, rfl, ?_⟩; have n0_ := Aside0.mk (Kd.R_elder' (rs HO738) (Kd.R_base ho0) hb); have n1_ := Aside0.mk (Kd.R_elder' (rs HO740) (Kd.R_base ho0) hb); have n2_ := Aside0.mk (Kd.R_elder' (rs HO744) (Kd.R_base ho0) hb); have n3_ := Aside0.mk (Kd.R_lower (Kd.R_new' (Kd.R_new' (Kd.R_new' (Kd.R_mono (ok' := fun k_ => True) ho0 (fun _ hk_ => trivial)) (Kd.R_lt (rs HO738))) (Kd.R_lt (rs HO740))) (Kd.R_lt (rs HO744))) (below_size (bs HB))); have n4_ := Aside0.mk (below_step (bs HB) hb); clear HO738; clear HO740; clear HO744; clear HB; have HO738 := n0_; have HO740 := n1_; have HO744 := n2_; have HO747 := n3_; have HB := n4_; clear n0_ n1_ n2_ n3_ n4_; (try clear hb); (try clear hb2); (try clear hk); (try clear hi); (try clear ho0)))
       (try simp only [Act.put, List.setIfInBounds_toArray, List.set_cons_zero, List.set_cons_succ])
       go_cut [176] from 148 to 167 (fun v176 wc => ∃ (kq : Nat) (x176_71 : Bool), v176 = .bool x176_71 ∧ Aside0 (laws_FnPolynomials.j2 kq l0 t734 t735 t736 t741 t742 x176_71 = some r) ∧ Aside0 (kq ≤ kj31) ∧ Aside0 (Kd.R (Kd.int .i64) 2 wc w.heap.size (fun k_ => some k_ ≠ ((.slice Ao75 t736.length co75) : Value).ownBlock ∧ some k_ ≠ (v743 : Value).ownBlock) (.slice Ao74 t735.length co74) t735) ∧ Aside0 (Kd.R (Kd.int .i64) 2 wc w.heap.size (fun k_ => some k_ ≠ ((.slice Ao74 t735.length co74) : Value).ownBlock ∧ some k_ ≠ (v743 : Value).ownBlock) (.slice Ao75 t736.length co75) t736) ∧ Aside0 (Kd.R (Kd.int .i64) 2 wc w.heap.size (fun k_ => some k_ ≠ ((.slice Ao74 t735.length co74) : Value).ownBlock ∧ some k_ ≠ ((.slice Ao75 t736.length co75) : Value).ownBlock) v743 t741) ∧ Aside0 (Below w.heap.size w wc))
       case first =>
        have H := HC72.out
        clear HC72
        by_cases c78 : t742 = t748
        ·
         rw [if_pos c78] at H
         have c78b0 : (t742 == t748) = true := beq_iff_eq.mpr c78
         have c78b1 : (t742 != t748) = false := bne_eq_false_iff_eq.mpr c78
         clear c78
         (first | rw [c78b0] | (simp only [i64_w, i32_w]; rw [c78b0]) | skip)
         replace H := Option.bind_eq_some_iff.mp H
         obtain ⟨t749, A790, H⟩ := H
         have A79 := Aside0.mk A790
         clear A790
         have H' := Aside0.mk H
         clear H
         obtain ⟨Ao80, co80, eo80⟩ := Kd.R_slice HO744.out
         subst eo80
         obtain ⟨Ao81, co81, eo81⟩ := Kd.R_slice HO747.out
         subst eo81
         go_wp2_with (first | (go_at_call 8; (with_reducible refine (laws_likeInts.calls kj31 _ _ t741 _ _ t745 t749 _ ?side1 ?side2 ?side3 ?side4 A79.out).mono ?_); (case side1 => exact cs ((Kd.R_reads' HO744.out).2.2)); (case side2 => exact (Kd.R_reads' HO744.out).2.1); (case side3 => exact cs ((Kd.R_reads' HO747.out).2.2)); (case side4 => exact (Kd.R_reads' HO747.out).2.1); rintro e w' ⟨rfl, ⟨nd, rfl⟩⟩))
         go_meet
         case rel => exact ⟨_, (!t749), ea_, H', ⟨by have := HJ6.out; have := HJ31.out; first | omega | exact Nat.le_refl _⟩, ⟨by (with_reducible repeat (first | apply Kd.R_alloc | apply Kd.R_drewN | apply Kd.R_drew)); exact Kd.R_mono HO738.out (fun _ hk => ⟨hk.1.1, hk.1.2⟩)⟩, ⟨by (with_reducible repeat (first | apply Kd.R_alloc | apply Kd.R_drewN | apply Kd.R_drew)); exact Kd.R_mono HO740.out (fun _ hk => ⟨hk.1.1, hk.1.2⟩)⟩, ⟨by (with_reducible repeat (first | apply Kd.R_alloc | apply Kd.R_drewN | apply Kd.R_drew)); exact Kd.R_mono HO744.out (fun _ hk => ⟨hk.1.1.2, hk.1.2⟩)⟩, ⟨by repeat (first | (with_reducible first | exact HB.out | apply below_alloc | apply pw_below_drewN | apply below_drew1) | exact HB.out)⟩⟩
        ·
         rw [if_neg c78] at H
         have c78b0 : (t742 == t748) = false := beq_eq_false_iff_ne.mpr c78
         have c78b1 : (t742 != t748) = true := bne_iff_ne.mpr c78
         (first | rw [c78b0] | (simp only [i64_w, i32_w]; rw [c78b0]) | skip)
         have H' := Aside0.mk H
         clear H
         go_wp2
         go_meet
         case rel => exact ⟨_, (true), ea_, H', ⟨by have := HJ6.out; have := HJ31.out; first | omega | exact Nat.le_refl _⟩, ⟨by (with_reducible repeat (first | apply Kd.R_alloc | apply Kd.R_drewN | apply Kd.R_drew)); exact Kd.R_mono HO738.out (fun _ hk => ⟨hk.1.1, hk.1.2⟩)⟩, ⟨by (with_reducible repeat (first | apply Kd.R_alloc | apply Kd.R_drewN | apply Kd.R_drew)); exact Kd.R_mono HO740.out (fun _ hk => ⟨hk.1.1, hk.1.2⟩)⟩, ⟨by (with_reducible repeat (first | apply Kd.R_alloc | apply Kd.R_drewN | apply Kd.R_drew)); exact Kd.R_mono HO744.out (fun _ hk => ⟨hk.1.1.2, hk.1.2⟩)⟩, ⟨by repeat (first | (with_reducible first | exact HB.out | apply below_alloc | apply pw_below_drewN | apply below_drew1) | exact HB.out)⟩⟩
       case rest => as_aux_lemma =>
        clear HC72
        try clear c1
        try clear p2
        try clear c3
        try clear c4
        try clear c5
        try clear c6
        try clear c7
        try clear c11
        try clear c12
        try clear c13
        try clear c13b0
        try clear c13b1
        try clear c14
        try clear c15
        try clear c17
        try clear c31
        try clear c33
        try clear c33b0
        try clear c33b1
        try clear c36
        try clear c36b0
        try clear c36b1
        try clear c37
        try clear c37b0
        try clear c37b1
        try clear c39
        try clear c40
        try clear c40b0
        try clear c40b1
        try clear c78
        try clear c78b0
        try clear c78b1
        try clear p2
        obtain ⟨kq, x176_71, rfl, HA, HJ71, HO_17, HO_18, HO_19, HB⟩ := hcut
        cases kq with
        | zero => exact absurd HA.out (by simp [laws_FnPolynomials.j2])
        | succ kj71 =>
         have H := HA.out
         clear HA
         simp only [laws_FnPolynomials.j2] at H
         by_cases c82 : x176_71 = true
         ·
          subst c82
          have H1 : (some false) = some r := by rw [if_pos rfl] at H; exact H
          clear H
          have H := H1
          clear H1
          obtain rfl := Option.some.inj H
          go_wp2
          go_ret
          exact ⟨by first | rfl | (simp [errW_none, errW_some] <;> rfl) | (simp [*, errW_none, errW_some] <;> rfl), by repeat (first | (with_reducible first | exact HB.out | apply below_alloc | apply pw_below_drewN | apply below_drew1) | exact HB.out)⟩
         ·
          replace c82 := Bool.eq_false_iff.mpr c82
          subst c82
          have H1 : (if t742 = 0 then (laws_FnPolynomials.j3 kj71 l0 t734 t735 t736 t741 (decide ((t741.length : Int) > 0))) else (laws_FnPolynomials.j3 kj71 l0 t734 t735 t736 t741 false)) = some r := by rw [if_neg (show ¬ (false = true) by decide)] at H; exact H
          clear H
          have H := H1
          clear H1
          have HC83 := Aside0.mk H
          clear H
          go_upto_region 18 with (fail)
          go_cut [183] from 176 to 176 (fun v183 wc => ∃ (kq : Nat) (x183_82 : Bool), v183 = .bool x183_82 ∧ Aside0 (laws_FnPolynomials.j3 kq l0 t734 t735 t736 t741 x183_82 = some r) ∧ Aside0 (kq ≤ kj71) ∧ Aside0 (Kd.R (Kd.int .i64) 2 wc w.heap.size (fun k_ => some k_ ≠ ((.slice Ao75 t736.length co75) : Value).ownBlock ∧ some k_ ≠ (v743 : Value).ownBlock) (.slice Ao74 t735.length co74) t735) ∧ Aside0 (Kd.R (Kd.int .i64) 2 wc w.heap.size (fun k_ => some k_ ≠ ((.slice Ao74 t735.length co74) : Value).ownBlock ∧ some k_ ≠ (v743 : Value).ownBlock) (.slice Ao75 t736.length co75) t736) ∧ Aside0 (Kd.R (Kd.int .i64) 2 wc w.heap.size (fun k_ => some k_ ≠ ((.slice Ao74 t735.length co74) : Value).ownBlock ∧ some k_ ≠ ((.slice Ao75 t736.length co75) : Value).ownBlock) v743 t741) ∧ Aside0 (Below w.heap.size w wc))
          case first =>
           have H := HC83.out
           clear HC83
           by_cases c84 : t742 = 0
           ·
            rw [if_pos c84] at H
            have c84b0 : (t742 == 0) = true := beq_iff_eq.mpr c84
            have c84b1 : (t742 != 0) = false := bne_eq_false_iff_eq.mpr c84
            clear c84
            (first | rw [c84b0] | (simp only [i64_w, i32_w]; rw [c84b0]) | skip)
            have H' := Aside0.mk H
            clear H
            obtain ⟨Ao85, co85, eo85⟩ := Kd.R_slice HO_19.out
            subst eo85
            go_wp2
            go_meet
            case rel => exact ⟨_, (decide ((t741.length : Int) > 0)), ea_, H', ⟨by have := HJ6.out; have := HJ31.out; have := HJ71.out; first | omega | exact Nat.le_refl _⟩, ⟨by (with_reducible repeat (first | apply Kd.R_alloc | apply Kd.R_drewN | apply Kd.R_drew)); exact HO_17.out⟩, ⟨by (with_reducible repeat (first | apply Kd.R_alloc | apply Kd.R_drewN | apply Kd.R_drew)); exact HO_18.out⟩, ⟨by (with_reducible repeat (first | apply Kd.R_alloc | apply Kd.R_drewN | apply Kd.R_drew)); exact HO_19.out⟩, ⟨by repeat (first | (with_reducible first | exact HB.out | apply below_alloc | apply pw_below_drewN | apply below_drew1) | exact HB.out)⟩⟩
           ·
            rw [if_neg c84] at H
            have c84b0 : (t742 == 0) = false := beq_eq_false_iff_ne.mpr c84
            have c84b1 : (t742 != 0) = true := bne_iff_ne.mpr c84
            (first | rw [c84b0] | (simp only [i64_w, i32_w]; rw [c84b0]) | skip)
            have H' := Aside0.mk H
            clear H
            go_wp2
            go_meet
            case rel => exact ⟨_, (false), ea_, H', ⟨by have := HJ6.out; have := HJ31.out; have := HJ71.out; first | omega | exact Nat.le_refl _⟩, ⟨by (with_reducible repeat (first | apply Kd.R_alloc | apply Kd.R_drewN | apply Kd.R_drew)); exact HO_17.out⟩, ⟨by (with_reducible repeat (first | apply Kd.R_alloc | apply Kd.R_drewN | apply Kd.R_drew)); exact HO_18.out⟩, ⟨by (with_reducible repeat (first | apply Kd.R_alloc | apply Kd.R_drewN | apply Kd.R_drew)); exact HO_19.out⟩, ⟨by repeat (first | (with_reducible first | exact HB.out | apply below_alloc | apply pw_below_drewN | apply below_drew1) | exact HB.out)⟩⟩
          case rest => as_aux_lemma =>
           clear HC83
           try clear c1
           try clear p2
           try clear c3
           try clear c4
           try clear c5
           try clear c6
           try clear c7
           try clear c8
           try clear c11
           try clear c12
           try clear c13
           try clear c13b0
           try clear c13b1
           try clear c14
           try clear c15
           try clear c17
           try clear c31
           try clear c33
           try clear c33b0
           try clear c33b1
           try clear c36
           try clear c36b0
           try clear c36b1
           try clear c37
           try clear c37b0
           try clear c37b1
           try clear c39
           try clear c40
           try clear c40b0
           try clear c40b1
           try clear c78
           try clear c78b0
           try clear c78b1
           try clear c82
           try clear c84
           try clear c84b0
           try clear c84b1
           try clear p2
           obtain ⟨kq, x183_82, rfl, HA, HJ82, HO_17, HO_18, HO_19, HB⟩ := hcut
           cases kq with
           | zero => exact absurd HA.out (by simp [laws_FnPolynomials.j3])
           | succ kj82 =>
            have H := HA.out
            clear HA
            simp only [laws_FnPolynomials.j3] at H
            have HC86 := Aside0.mk H
            clear H
            go_upto_if 183 with (fail)
            go_cut [] from 183 to 183 (fun wc => ∃ (kq : Nat), Aside0 (laws_FnPolynomials.j4 kq l0 = some r) ∧ Aside0 (kq ≤ kj82) ∧ Aside0 (Below w.heap.size w wc))
            case first =>
             have H := HC86.out
             clear HC86
             by_cases c87 : x183_82 = true
             ·
              subst c87
              have H1 : ((impl_DividePolys.f kj82 t734 t735 t741).bind fun bt750 => ((impl_DividePolys.f kj82 t734 t736 t741).bind fun bt757 => (if bt750.2.2 = 0 then (if bt757.2.2 = 0 then (if (bt750.2.1.length : Int) = 0 then (if (bt757.2.1.length : Int) = 0 then (if 0 ≤ (wrap64 ((t741.length : Int) - 1)) then (if (wrap64 ((t741.length : Int) - 1)) < (t741.length : Int) then (if (rd t741 (wrap64 ((t741.length : Int) - 1))) = 1 then (laws_FnPolynomials.j4 kj82 l0) else (some false)) else (none)) else (none)) else (some false)) else (some false)) else (some false)) else (some false)))) = some r := by rw [if_pos rfl] at H; exact H
              clear H
              have H := H1
              clear H1
              replace H := Option.bind_eq_some_iff.mp H
              obtain ⟨⟨t750, t751, t752⟩, A880, H⟩ := H
              have A88 := Aside0.mk A880
              clear A880
              replace H := Option.bind_eq_some_iff.mp H
              obtain ⟨⟨t757, t758, t759⟩, A890, H⟩ := H
              have A89 := Aside0.mk A890
              clear A890
              by_cases c90 : t752 = 0
              ·
               rw [if_pos c90] at H
               have c90b0 : (t752 == 0) = true := beq_iff_eq.mpr c90
               have c90b1 : (t752 != 0) = false := bne_eq_false_iff_eq.mpr c90
               clear c90
               (first | rw [c90b0] | (simp only [i64_w, i32_w]; rw [c90b0]) | skip)
               by_cases c91 : t759 = 0
               ·
                rw [if_pos c91] at H
                have c91b0 : (t759 == 0) = true := beq_iff_eq.mpr c91
                have c91b1 : (t759 != 0) = false := bne_eq_false_iff_eq.mpr c91
                clear c91
                by_cases c92 : (t751.length : Int) = 0
                ·
                 rw [if_pos c92] at H
                 have c92b0 : ((t751.length : Int) == 0) = true := beq_iff_eq.mpr c92
                 have c92b1 : ((t751.length : Int) != 0) = false := bne_eq_false_iff_eq.mpr c92
                 clear c92
                 by_cases c93 : (t758.length : Int) = 0
                 ·
                  rw [if_pos c93] at H
                  have c93b0 : ((t758.length : Int) == 0) = true := beq_iff_eq.mpr c93
                  have c93b1 : ((t758.length : Int) != 0) = false := bne_eq_false_iff_eq.mpr c93
                  clear c93
                  obtain ⟨ji94, hji94⟩ : ∃ j_ : Int, (wrap64 ((t741.length : Int) - 1)) = j_ := ⟨_, rfl⟩
                  replace H : (if 0 ≤ (ji94) then (if (ji94) < (t741.length : Int) then (if (rd t741 (ji94)) = 1 then (laws_FnPolynomials.j4 kj82 l0) else (some false)) else (none)) else (none)) = some r := by first | (rw [hji94] at H; exact H) | (simp only [hji94] at H ⊢; exact H)
                  (try rw [hji94] at A88)
                  (try rw [hji94] at A89)
                  have hji94w : (IntKind.i64.wrap ((t741.length : Int) - 1)) = ji94 := (i64_w _).trans hji94
                  by_cases c95 : 0 ≤ (ji94)
                  ·
                   rw [if_pos c95] at H
                   have c95b0 : decide (0 ≤ (ji94)) = true := decide_eq_true c95
                   clear c95
                   by_cases c96 : (ji94) < (t741.length : Int)
                   ·
                    rw [if_pos c96] at H
                    have c96b0 : decide ((ji94) < (t741.length : Int)) = true := decide_eq_true c96
                    clear c96
                    by_cases c97 : (rd t741 (ji94)) = 1
                    ·
                     rw [if_pos c97] at H
                     have c97b0 : ((rd t741 (ji94)) == 1) = true := beq_iff_eq.mpr c97
                     have c97b1 : ((rd t741 (ji94)) != 1) = false := bne_eq_false_iff_eq.mpr c97
                     clear c97
                     have H' := Aside0.mk H
                     clear H
                     obtain ⟨Ao98, co98, eo98⟩ := Kd.R_slice HO_19.out
                     subst eo98
                     go_wp2_with (first | ((with_reducible refine gate_callee (f := 6) rfl ?_); refine goesM_ (some 188) rfl rfl Try.func6 #[.int .i64 t734, .slice Ao74 t735.length co74, .slice Ao98 t741.length co98] rfl ?_; (with_reducible refine (impl_DividePolys.calls kj82 t734 _ _ t735 _ _ t741 t750 t751 t752 _ ?side1 ?side2 ?side3 ?side4 A88.out).mono ?_); (case side1 => exact cs ((Kd.R_reads' HO_17.out).2.2)); (case side2 => exact (Kd.R_reads' HO_17.out).2.1); (case side3 => exact cs ((Kd.R_reads' HO_19.out).2.2)); (case side4 => exact (Kd.R_reads' HO_19.out).2.1); rintro e w99 ⟨v753, v755, rfl, ho0, ho1, hb⟩; refine ⟨_, rfl, ?_⟩; have n0_ := Aside0.mk (Kd.R_mono (Kd.R_told (Kd.R_told (Kd.R_old (rs HO_17) hb) (Kd.R_base ho0)) (Kd.R_base ho1)) (fun _ h_ => h_.1)); have n1_ := Aside0.mk (Kd.R_mono (Kd.R_told (Kd.R_told (Kd.R_old (rs HO_18) hb) (Kd.R_base ho0)) (Kd.R_base ho1)) (fun _ h_ => h_.1)); have n2_ := Aside0.mk (Kd.R_mono (Kd.R_told (Kd.R_told (Kd.R_old (rs HO_19) hb) (Kd.R_base ho0)) (Kd.R_base ho1)) (fun _ h_ => h_.1)); have n3_ := Aside0.mk (Kd.R_lower (Kd.R_new' (Kd.R_new' (Kd.R_new' ho0 (Kd.R_lt (rs HO_17))) (Kd.R_lt (rs HO_18))) (Kd.R_lt (rs HO_19))) (below_size (bs HB))); have n4_ := Aside0.mk (Kd.R_lower (Kd.R_new' (Kd.R_new' (Kd.R_new' ho1 (Kd.R_lt (rs HO_17))) (Kd.R_lt (rs HO_18))) (Kd.R_lt (rs HO_19))) (below_size (bs HB))); have n5_ := Aside0.mk (below_step (bs HB) hb); clear HO_17; clear HO_18; clear HO_19; clear HB; have HO_17 := n0_; have HO_18 := n1_; have HO_19 := n2_; have HO754 := n3_; have HO756 := n4_; have HB := n5_; clear n0_ n1_ n2_ n3_ n4_ n5_; (try clear hb); (try clear hb2); (try clear hk); (try clear hi); (try clear ho0); (try clear ho1)) | ((with_reducible refine gate_callee (f := 6) rfl ?_); refine goesM_ (some 196) rfl rfl Try.func6 #[.int .i64 t734, .slice Ao75 t736.length co75, .slice Ao98 t741.length co98] rfl ?_; (with_reducible refine (impl_DividePolys.calls kj82 t734 _ _ t736 _ _ t741 t757 t758 t759 _ ?side1 ?side2 ?side3 ?side4 A89.out).mono ?_); (case side1 => exact cs ((Kd.R_reads' HO_18.out).2.2)); (case side2 => exact (Kd.R_reads' HO_18.out).2.1); (case side3 => exact cs ((Kd.R_reads' HO_19.out).2.2)); (case side4 => exact (Kd.R_reads' HO_19.out).2.1); rintro e w100 ⟨v760, v762, rfl, ho0, ho1, hb⟩; refine ⟨_, rfl, ?_⟩; have n0_ := Aside0.mk (Kd.R_mono (Kd.R_told (Kd.R_told (Kd.R_old (rs HO_17) hb) (Kd.R_base ho0)) (Kd.R_base ho1)) (fun _ h_ => h_.1)); have n1_ := Aside0.mk (Kd.R_mono (Kd.R_told (Kd.R_told (Kd.R_old (rs HO_18) hb) (Kd.R_base ho0)) (Kd.R_base ho1)) (fun _ h_ => h_.1)); have n2_ := Aside0.mk (Kd.R_mono (Kd.R_told (Kd.R_told (Kd.R_old (rs HO_19) hb) (Kd.R_base ho0)) (Kd.R_base ho1)) (fun _ h_ => h_.1)); have n3_ := Aside0.mk (Kd.R_mono (Kd.R_told (Kd.R_told (Kd.R_old (rs HO754) hb) (Kd.R_base ho0)) (Kd.R_base ho1)) (fun _ h_ => h_.1)); have n4_ := Aside0.mk (Kd.R_mono (Kd.R_told (Kd.R_told (Kd.R_old (rs HO756) hb) (Kd.R_base ho0)) (Kd.R_base ho1)) (fun _ h_ => h_.1)); have n5_ := Aside0.mk (Kd.R_lower (Kd.R_new' (Kd.R_new' (Kd.R_new' (Kd.R_new' (Kd.R_new' ho0 (Kd.R_lt (rs HO_17))) (Kd.R_lt (rs HO_18))) (Kd.R_lt (rs HO_19))) (Kd.R_lt (rs HO754))) (Kd.R_lt (rs HO756))) (below_size (bs HB))); have n6_ := Aside0.mk (Kd.R_lower (Kd.R_new' (Kd.R_new' (Kd.R_new' (Kd.R_new' (Kd.R_new' ho1 (Kd.R_lt (rs HO_17))) (Kd.R_lt (rs HO_18))) (Kd.R_lt (rs HO_19))) (Kd.R_lt (rs HO754))) (Kd.R_lt (rs HO756))) (below_size (bs HB))); have n7_ := Aside0.mk (below_step (bs HB) hb); clear HO_17; clear HO_18; clear HO_19; clear HO754; clear HO756; clear HB; have HO_17 := n0_; have HO_18 := n1_; have HO_19 := n2_; have HO754 := n3_; have HO756 := n4_; have HO761 := n5_; have HO763 := n6_; have HB := n7_; clear n0_ n1_ n2_ n3_ n4_ n5_ n6_ n7_; (try clear hb); (try clear hb2); (try clear hk); (try clear hi); (try clear ho0); (try clear ho1); obtain ⟨Ao101, co101, eo101⟩ := Kd.R_slice HO756.out; subst eo101; obtain ⟨Ao102, co102, eo102⟩ := Kd.R_slice HO763.out; subst eo102; have p764 : 0 ≤ ((ji94) : Int) := of_decide_eq_true (by first | (with_reducible assumption) | assumption); have q764 : (ji94) < (t741.length : Int) := of_decide_eq_true (by first | (with_reducible assumption) | assumption); obtain ⟨ad764, e764, hx764_0⟩ := Kd.at_int (Kd.R_reads' HO_19.out).2.2 (ji94) p764 q764; cases e764; replace p764 := eq_true p764; replace q764 := eq_true q764))
                     go_meet
                     case rel => exact ⟨_, H', ⟨by have := HJ6.out; have := HJ31.out; have := HJ71.out; have := HJ82.out; first | omega | exact Nat.le_refl _⟩, ⟨by repeat (first | (with_reducible first | exact HB.out | apply below_alloc | apply pw_below_drewN | apply below_drew1) | exact HB.out)⟩⟩
                    ·
                     rw [if_neg c97] at H
                     have c97b0 : ((rd t741 (ji94)) == 1) = false := beq_eq_false_iff_ne.mpr c97
                     have c97b1 : ((rd t741 (ji94)) != 1) = true := bne_iff_ne.mpr c97
                     obtain rfl := Option.some.inj H
                     obtain ⟨Ao103, co103, eo103⟩ := Kd.R_slice HO_19.out
                     subst eo103
                     go_wp2_with (first | ((with_reducible refine gate_callee (f := 6) rfl ?_); refine goesM_ (some 188) rfl rfl Try.func6 #[.int .i64 t734, .slice Ao74 t735.length co74, .slice Ao103 t741.length co103] rfl ?_; (with_reducible refine (impl_DividePolys.calls kj82 t734 _ _ t735 _ _ t741 t750 t751 t752 _ ?side1 ?side2 ?side3 ?side4 A88.out).mono ?_); (case side1 => exact cs ((Kd.R_reads' HO_17.out).2.2)); (case side2 => exact (Kd.R_reads' HO_17.out).2.1); (case side3 => exact cs ((Kd.R_reads' HO_19.out).2.2)); (case side4 => exact (Kd.R_reads' HO_19.out).2.1); rintro e w104 ⟨v753, v755, rfl, ho0, ho1, hb⟩; refine ⟨_, rfl, ?_⟩; have n0_ := Aside0.mk (Kd.R_mono (Kd.R_told (Kd.R_told (Kd.R_old (rs HO_17) hb) (Kd.R_base ho0)) (Kd.R_base ho1)) (fun _ h_ => h_.1)); have n1_ := Aside0.mk (Kd.R_mono (Kd.R_told (Kd.R_told (Kd.R_old (rs HO_18) hb) (Kd.R_base ho0)) (Kd.R_base ho1)) (fun _ h_ => h_.1)); have n2_ := Aside0.mk (Kd.R_mono (Kd.R_told (Kd.R_told (Kd.R_old (rs HO_19) hb) (Kd.R_base ho0)) (Kd.R_base ho1)) (fun _ h_ => h_.1)); have n3_ := Aside0.mk (Kd.R_lower (Kd.R_new' (Kd.R_new' (Kd.R_new' ho0 (Kd.R_lt (rs HO_17))) (Kd.R_lt (rs HO_18))) (Kd.R_lt (rs HO_19))) (below_size (bs HB))); have n4_ := Aside0.mk (Kd.R_lower (Kd.R_new' (Kd.R_new' (Kd.R_new' ho1 (Kd.R_lt (rs HO_17))) (Kd.R_lt (rs HO_18))) (Kd.R_lt (rs HO_19))) (below_size (bs HB))); have n5_ := Aside0.mk (below_step (bs HB) hb); clear HO_17; clear HO_18; clear HO_19; clear HB; have HO_17 := n0_; have HO_18 := n1_; have HO_19 := n2_; have HO754 := n3_; have HO756 := n4_; have HB := n5_; clear n0_ n1_ n2_ n3_ n4_ n5_; (try clear hb); (try clear hb2); (try clear hk); (try clear hi); (try clear ho0); (try clear ho1)) | ((with_reducible refine gate_callee (f := 6) rfl ?_); refine goesM_ (some 196) rfl rfl Try.func6 #[.int .i64 t734, .slice Ao75 t736.length co75, .slice Ao103 t741.length co103] rfl ?_; (with_reducible refine (impl_DividePolys.calls kj82 t734 _ _ t736 _ _ t741 t757 t758 t759 _ ?side1 ?side2 ?side3 ?side4 A89.out).mono ?_); (case side1 => exact cs ((Kd.R_reads' HO_18.out).2.2)); (case side2 => exact (Kd.R_reads' HO_18.out).2.1); (case side3 => exact cs ((Kd.R_reads' HO_19.out).2.2)); (case side4 => exact (Kd.R_reads' HO_19.out).2.1); rintro e w105 ⟨v760, v762, rfl, ho0, ho1, hb⟩; refine ⟨_, rfl, ?_⟩; have n0_ := Aside0.mk (Kd.R_mono (Kd.R_told (Kd.R_told (Kd.R_old (rs HO_17) hb) (Kd.R_base ho0)) (Kd.R_base ho1)) (fun _ h_ => h_.1)); have n1_ := Aside0.mk (Kd.R_mono (Kd.R_told (Kd.R_told (Kd.R_old (rs HO_18) hb) (Kd.R_base ho0)) (Kd.R_base ho1)) (fun _ h_ => h_.1)); have n2_ := Aside0.mk (Kd.R_mono (Kd.R_told (Kd.R_told (Kd.R_old (rs HO_19) hb) (Kd.R_base ho0)) (Kd.R_base ho1)) (fun _ h_ => h_.1)); have n3_ := Aside0.mk (Kd.R_mono (Kd.R_told (Kd.R_told (Kd.R_old (rs HO754) hb) (Kd.R_base ho0)) (Kd.R_base ho1)) (fun _ h_ => h_.1)); have n4_ := Aside0.mk (Kd.R_mono (Kd.R_told (Kd.R_told (Kd.R_old (rs HO756) hb) (Kd.R_base ho0)) (Kd.R_base ho1)) (fun _ h_ => h_.1)); have n5_ := Aside0.mk (Kd.R_lower (Kd.R_new' (Kd.R_new' (Kd.R_new' (Kd.R_new' (Kd.R_new' ho0 (Kd.R_lt (rs HO_17))) (Kd.R_lt (rs HO_18))) (Kd.R_lt (rs HO_19))) (Kd.R_lt (rs HO754))) (Kd.R_lt (rs HO756))) (below_size (bs HB))); have n6_ := Aside0.mk (Kd.R_lower (Kd.R_new' (Kd.R_new' (Kd.R_new' (Kd.R_new' (Kd.R_new' ho1 (Kd.R_lt (rs HO_17))) (Kd.R_lt (rs HO_18))) (Kd.R_lt (rs HO_19))) (Kd.R_lt (rs HO754))) (Kd.R_lt (rs HO756))) (below_size (bs HB))); have n7_ := Aside0.mk (below_step (bs HB) hb); clear HO_17; clear HO_18; clear HO_19; clear HO754; clear HO756; clear HB; have HO_17 := n0_; have HO_18 := n1_; have HO_19 := n2_; have HO754 := n3_; have HO756 := n4_; have HO761 := n5_; have HO763 := n6_; have HB := n7_; clear n0_ n1_ n2_ n3_ n4_ n5_ n6_ n7_; (try clear hb); (try clear hb2); (try clear hk); (try clear hi); (try clear ho0); (try clear ho1); obtain ⟨Ao106, co106, eo106⟩ := Kd.R_slice HO756.out; subst eo106; obtain ⟨Ao107, co107, eo107⟩ := Kd.R_slice HO763.out; subst eo107; have p764 : 0 ≤ ((ji94) : Int) := of_decide_eq_true (by first | (with_reducible assumption) | assumption); have q764 : (ji94) < (t741.length : Int) := of_decide_eq_true (by first | (with_reducible assumption) | assumption); obtain ⟨ad764, e764, hx764_0⟩ := Kd.at_int (Kd.R_reads' HO_19.out).2.2 (ji94) p764 q764; cases e764; replace p764 := eq_true p764; replace q764 := eq_true q764))
                     go_ret
                     exact ⟨by first | rfl | (simp [errW_none, errW_some] <;> rfl) | (simp only [← hji94]; first | rfl | (simp [errW_none, errW_some] <;> rfl)) | (simp [*, errW_none, errW_some] <;> rfl), by repeat (first | (with_reducible first | exact HB.out | apply below_alloc | apply pw_below_drewN | apply below_drew1) | exact HB.out)⟩
                   ·
                    rw [if_neg c96] at H
                    exact absurd H (by simp)
                  ·
                   rw [if_neg c95] at H
                   exact absurd H (by simp)
                 ·
                  rw [if_neg c93] at H
                  have c93b0 : ((t758.length : Int) == 0) = false := beq_eq_false_iff_ne.mpr c93
                  have c93b1 : ((t758.length : Int) != 0) = true := bne_iff_ne.mpr c93
                  have c93b2 : ¬ (t758 = []) := fun h_ => c93 (by rw [h_]; rfl)
                  obtain rfl := Option.some.inj H
                  obtain ⟨Ao108, co108, eo108⟩ := Kd.R_slice HO_19.out
                  subst eo108
                  go_wp2_with (first | ((with_reducible refine gate_callee (f := 6) rfl ?_); refine goesM_ (some 188) rfl rfl Try.func6 #[.int .i64 t734, .slice Ao74 t735.length co74, .slice Ao108 t741.length co108] rfl ?_; (with_reducible refine (impl_DividePolys.calls kj82 t734 _ _ t735 _ _ t741 t750 t751 t752 _ ?side1 ?side2 ?side3 ?side4 A88.out).mono ?_); (case side1 => exact cs ((Kd.R_reads' HO_17.out).2.2)); (case side2 => exact (Kd.R_reads' HO_17.out).2.1); (case side3 => exact cs ((Kd.R_reads' HO_19.out).2.2)); (case side4 => exact (Kd.R_reads' HO_19.out).2.1); rintro e w109 ⟨v753, v755, rfl, ho0, ho1, hb⟩; refine ⟨_, rfl, ?_⟩; have n0_ := Aside0.mk (Kd.R_mono (Kd.R_told (Kd.R_told (Kd.R_old (rs HO_17) hb) (Kd.R_base ho0)) (Kd.R_base ho1)) (fun _ h_ => h_.1)); have n1_ := Aside0.mk (Kd.R_mono (Kd.R_told (Kd.R_told (Kd.R_old (rs HO_18) hb) (Kd.R_base ho0)) (Kd.R_base ho1)) (fun _ h_ => h_.1)); have n2_ := Aside0.mk (Kd.R_mono (Kd.R_told (Kd.R_told (Kd.R_old (rs HO_19) hb) (Kd.R_base ho0)) (Kd.R_base ho1)) (fun _ h_ => h_.1)); have n3_ := Aside0.mk (Kd.R_lower (Kd.R_new' (Kd.R_new' (Kd.R_new' ho0 (Kd.R_lt (rs HO_17))) (Kd.R_lt (rs HO_18))) (Kd.R_lt (rs HO_19))) (below_size (bs HB))); have n4_ := Aside0.mk (Kd.R_lower (Kd.R_new' (Kd.R_new' (Kd.R_new' ho1 (Kd.R_lt (rs HO_17))) (Kd.R_lt (rs HO_18))) (Kd.R_lt (rs HO_19))) (below_size (bs HB))); have n5_ := Aside0.mk (below_step (bs HB) hb); clear HO_17; clear HO_18; clear HO_19; clear HB; have HO_17 := n0_; have HO_18 := n1_; have HO_19 := n2_; have HO754 := n3_; have HO756 := n4_; have HB := n5_; clear n0_ n1_ n2_ n3_ n4_ n5_; (try clear hb); (try clear hb2); (try clear hk); (try clear hi); (try clear ho0); (try clear ho1)) | ((with_reducible refine gate_callee (f := 6) rfl ?_); refine goesM_ (some 196) rfl rfl Try.func6 #[.int .i64 t734, .slice Ao75 t736.length co75, .slice Ao108 t741.length co108] rfl ?_; (with_reducible refine (impl_DividePolys.calls kj82 t734 _ _ t736 _ _ t741 t757 t758 t759 _ ?side1 ?side2 ?side3 ?side4 A89.out).mono ?_); (case side1 => exact cs ((Kd.R_reads' HO_18.out).2.2)); (case side2 => exact (Kd.R_reads' HO_18.out).2.1); (case side3 => exact cs ((Kd.R_reads' HO_19.out).2.2)); (case side4 => exact (Kd.R_reads' HO_19.out).2.1); rintro e w110 ⟨v760, v762, rfl, ho0, ho1, hb⟩; refine ⟨_, rfl, ?_⟩; have n0_ := Aside0.mk (Kd.R_mono (Kd.R_told (Kd.R_told (Kd.R_old (rs HO_17) hb) (Kd.R_base ho0)) (Kd.R_base ho1)) (fun _ h_ => h_.1)); have n1_ := Aside0.mk (Kd.R_mono (Kd.R_told (Kd.R_told (Kd.R_old (rs HO_18) hb) (Kd.R_base ho0)) (Kd.R_base ho1)) (fun _ h_ => h_.1)); have n2_ := Aside0.mk (Kd.R_mono (Kd.R_told (Kd.R_told (Kd.R_old (rs HO_19) hb) (Kd.R_base ho0)) (Kd.R_base ho1)) (fun _ h_ => h_.1)); have n3_ := Aside0.mk (Kd.R_mono (Kd.R_told (Kd.R_told (Kd.R_old (rs HO754) hb) (Kd.R_base ho0)) (Kd.R_base ho1)) (fun _ h_ => h_.1)); have n4_ := Aside0.mk (Kd.R_mono (Kd.R_told (Kd.R_told (Kd.R_old (rs HO756) hb) (Kd.R_base ho0)) (Kd.R_base ho1)) (fun _ h_ => h_.1)); have n5_ := Aside0.mk (Kd.R_lower (Kd.R_new' (Kd.R_new' (Kd.R_new' (Kd.R_new' (Kd.R_new' ho0 (Kd.R_lt (rs HO_17))) (Kd.R_lt (rs HO_18))) (Kd.R_lt (rs HO_19))) (Kd.R_lt (rs HO754))) (Kd.R_lt (rs HO756))) (below_size (bs HB))); have n6_ := Aside0.mk (Kd.R_lower (Kd.R_new' (Kd.R_new' (Kd.R_new' (Kd.R_new' (Kd.R_new' ho1 (Kd.R_lt (rs HO_17))) (Kd.R_lt (rs HO_18))) (Kd.R_lt (rs HO_19))) (Kd.R_lt (rs HO754))) (Kd.R_lt (rs HO756))) (below_size (bs HB))); have n7_ := Aside0.mk (below_step (bs HB) hb); clear HO_17; clear HO_18; clear HO_19; clear HO754; clear HO756; clear HB; have HO_17 := n0_; have HO_18 := n1_; have HO_19 := n2_; have HO754 := n3_; have HO756 := n4_; have HO761 := n5_; have HO763 := n6_; have HB := n7_; clear n0_ n1_ n2_ n3_ n4_ n5_ n6_ n7_; (try clear hb); (try clear hb2); (try clear hk); (try clear hi); (try clear ho0); (try clear ho1); obtain ⟨Ao111, co111, eo111⟩ := Kd.R_slice HO756.out; subst eo111; obtain ⟨Ao112, co112, eo112⟩ := Kd.R_slice HO763.out; subst eo112))
                  go_ret
                  exact ⟨by first | rfl | (simp [errW_none, errW_some] <;> rfl) | (simp [*, errW_none, errW_some] <;> rfl), by repeat (first | (with_reducible first | exact HB.out | apply below_alloc | apply pw_below_drewN | apply below_drew1) | exact HB.out)⟩
                ·
                 rw [if_neg c92] at H
                 have c92b0 : ((t751.length : Int) == 0) = false := beq_eq_false_iff_ne.mpr c92
                 have c92b1 : ((t751.length : Int) != 0) = true := bne_iff_ne.mpr c92
                 have c92b2 : ¬ (t751 = []) := fun h_ => c92 (by rw [h_]; rfl)
                 obtain rfl := Option.some.inj H
                 obtain ⟨Ao113, co113, eo113⟩ := Kd.R_slice HO_19.out
                 subst eo113
                 go_wp2_with (first | ((with_reducible refine gate_callee (f := 6) rfl ?_); refine goesM_ (some 188) rfl rfl Try.func6 #[.int .i64 t734, .slice Ao74 t735.length co74, .slice Ao113 t741.length co113] rfl ?_; (with_reducible refine (impl_DividePolys.calls kj82 t734 _ _ t735 _ _ t741 t750 t751 t752 _ ?side1 ?side2 ?side3 ?side4 A88.out).mono ?_); (case side1 => exact cs ((Kd.R_reads' HO_17.out).2.2)); (case side2 => exact (Kd.R_reads' HO_17.out).2.1); (case side3 => exact cs ((Kd.R_reads' HO_19.out).2.2)); (case side4 => exact (Kd.R_reads' HO_19.out).2.1); rintro e w114 ⟨v753, v755, rfl, ho0, ho1, hb⟩; refine ⟨_, rfl, ?_⟩; have n0_ := Aside0.mk (Kd.R_mono (Kd.R_told (Kd.R_told (Kd.R_old (rs HO_17) hb) (Kd.R_base ho0)) (Kd.R_base ho1)) (fun _ h_ => h_.1)); have n1_ := Aside0.mk (Kd.R_mono (Kd.R_told (Kd.R_told (Kd.R_old (rs HO_18) hb) (Kd.R_base ho0)) (Kd.R_base ho1)) (fun _ h_ => h_.1)); have n2_ := Aside0.mk (Kd.R_mono (Kd.R_told (Kd.R_told (Kd.R_old (rs HO_19) hb) (Kd.R_base ho0)) (Kd.R_base ho1)) (fun _ h_ => h_.1)); have n3_ := Aside0.mk (Kd.R_lower (Kd.R_new' (Kd.R_new' (Kd.R_new' ho0 (Kd.R_lt (rs HO_17))) (Kd.R_lt (rs HO_18))) (Kd.R_lt (rs HO_19))) (below_size (bs HB))); have n4_ := Aside0.mk (Kd.R_lower (Kd.R_new' (Kd.R_new' (Kd.R_new' ho1 (Kd.R_lt (rs HO_17))) (Kd.R_lt (rs HO_18))) (Kd.R_lt (rs HO_19))) (below_size (bs HB))); have n5_ := Aside0.mk (below_step (bs HB) hb); clear HO_17; clear HO_18; clear HO_19; clear HB; have HO_17 := n0_; have HO_18 := n1_; have HO_19 := n2_; have HO754 := n3_; have HO756 := n4_; have HB := n5_; clear n0_ n1_ n2_ n3_ n4_ n5_; (try clear hb); (try clear hb2); (try clear hk); (try clear hi); (try clear ho0); (try clear ho1)) | ((with_reducible refine gate_callee (f := 6) rfl ?_); refine goesM_ (some 196) rfl rfl Try.func6 #[.int .i64 t734, .slice Ao75 t736.length co75, .slice Ao113 t741.length co113] rfl ?_; (with_reducible refine (impl_DividePolys.calls kj82 t734 _ _ t736 _ _ t741 t757 t758 t759 _ ?side1 ?side2 ?side3 ?side4 A89.out).mono ?_); (case side1 => exact cs ((Kd.R_reads' HO_18.out).2.2)); (case side2 => exact (Kd.R_reads' HO_18.out).2.1); (case side3 => exact cs ((Kd.R_reads' HO_19.out).2.2)); (case side4 => exact (Kd.R_reads' HO_19.out).2.1); rintro e w115 ⟨v760, v762, rfl, ho0, ho1, hb⟩; refine ⟨_, rfl, ?_⟩; have n0_ := Aside0.mk (Kd.R_mono (Kd.R_told (Kd.R_told (Kd.R_old (rs HO_17) hb) (Kd.R_base ho0)) (Kd.R_base ho1)) (fun _ h_ => h_.1)); have n1_ := Aside0.mk (Kd.R_mono (Kd.R_told (Kd.R_told (Kd.R_old (rs HO_18) hb) (Kd.R_base ho0)) (Kd.R_base ho1)) (fun _ h_ => h_.1)); have n2_ := Aside0.mk (Kd.R_mono (Kd.R_told (Kd.R_told (Kd.R_old (rs HO_19) hb) (Kd.R_base ho0)) (Kd.R_base ho1)) (fun _ h_ => h_.1)); have n3_ := Aside0.mk (Kd.R_mono (Kd.R_told (Kd.R_told (Kd.R_old (rs HO754) hb) (Kd.R_base ho0)) (Kd.R_base ho1)) (fun _ h_ => h_.1)); have n4_ := Aside0.mk (Kd.R_mono (Kd.R_told (Kd.R_told (Kd.R_old (rs HO756) hb) (Kd.R_base ho0)) (Kd.R_base ho1)) (fun _ h_ => h_.1)); have n5_ := Aside0.mk (Kd.R_lower (Kd.R_new' (Kd.R_new' (Kd.R_new' (Kd.R_new' (Kd.R_new' ho0 (Kd.R_lt (rs HO_17))) (Kd.R_lt (rs HO_18))) (Kd.R_lt (rs HO_19))) (Kd.R_lt (rs HO754))) (Kd.R_lt (rs HO756))) (below_size (bs HB))); have n6_ := Aside0.mk (Kd.R_lower (Kd.R_new' (Kd.R_new' (Kd.R_new' (Kd.R_new' (Kd.R_new' ho1 (Kd.R_lt (rs HO_17))) (Kd.R_lt (rs HO_18))) (Kd.R_lt (rs HO_19))) (Kd.R_lt (rs HO754))) (Kd.R_lt (rs HO756))) (below_size (bs HB))); have n7_ := Aside0.mk (below_step (bs HB) hb); clear HO_17; clear HO_18; clear HO_19; clear HO754; clear HO756; clear HB; have HO_17 := n0_; have HO_18 := n1_; have HO_19 := n2_; have HO754 := n3_; have HO756 := n4_; have HO761 := n5_; have HO763 := n6_; have HB := n7_; clear n0_ n1_ n2_ n3_ n4_ n5_ n6_ n7_; (try clear hb); (try clear hb2); (try clear hk); (try clear hi); (try clear ho0); (try clear ho1); obtain ⟨Ao116, co116, eo116⟩ := Kd.R_slice HO756.out; subst eo116))
                 go_ret
                 exact ⟨by first | rfl | (simp [errW_none, errW_some] <;> rfl) | (simp [*, errW_none, errW_some] <;> rfl), by repeat (first | (with_reducible first | exact HB.out | apply below_alloc | apply pw_below_drewN | apply below_drew1) | exact HB.out)⟩
               ·
                rw [if_neg c91] at H
                have c91b0 : (t759 == 0) = false := beq_eq_false_iff_ne.mpr c91
                have c91b1 : (t759 != 0) = true := bne_iff_ne.mpr c91
                obtain rfl := Option.some.inj H
                obtain ⟨Ao117, co117, eo117⟩ := Kd.R_slice HO_19.out
                subst eo117
                go_wp2_with (first | ((with_reducible refine gate_callee (f := 6) rfl ?_); refine goesM_ (some 188) rfl rfl Try.func6 #[.int .i64 t734, .slice Ao74 t735.length co74, .slice Ao117 t741.length co117] rfl ?_; (with_reducible refine (impl_DividePolys.calls kj82 t734 _ _ t735 _ _ t741 t750 t751 t752 _ ?side1 ?side2 ?side3 ?side4 A88.out).mono ?_); (case side1 => exact cs ((Kd.R_reads' HO_17.out).2.2)); (case side2 => exact (Kd.R_reads' HO_17.out).2.1); (case side3 => exact cs ((Kd.R_reads' HO_19.out).2.2)); (case side4 => exact (Kd.R_reads' HO_19.out).2.1); rintro e w118 ⟨v753, v755, rfl, ho0, ho1, hb⟩; refine ⟨_, rfl, ?_⟩; have n0_ := Aside0.mk (Kd.R_mono (Kd.R_told (Kd.R_told (Kd.R_old (rs HO_17) hb) (Kd.R_base ho0)) (Kd.R_base ho1)) (fun _ h_ => h_.1)); have n1_ := Aside0.mk (Kd.R_mono (Kd.R_told (Kd.R_told (Kd.R_old (rs HO_18) hb) (Kd.R_base ho0)) (Kd.R_base ho1)) (fun _ h_ => h_.1)); have n2_ := Aside0.mk (Kd.R_mono (Kd.R_told (Kd.R_told (Kd.R_old (rs HO_19) hb) (Kd.R_base ho0)) (Kd.R_base ho1)) (fun _ h_ => h_.1)); have n3_ := Aside0.mk (Kd.R_lower (Kd.R_new' (Kd.R_new' (Kd.R_new' ho0 (Kd.R_lt (rs HO_17))) (Kd.R_lt (rs HO_18))) (Kd.R_lt (rs HO_19))) (below_size (bs HB))); have n4_ := Aside0.mk (Kd.R_lower (Kd.R_new' (Kd.R_new' (Kd.R_new' ho1 (Kd.R_lt (rs HO_17))) (Kd.R_lt (rs HO_18))) (Kd.R_lt (rs HO_19))) (below_size (bs HB))); have n5_ := Aside0.mk (below_step (bs HB) hb); clear HO_17; clear HO_18; clear HO_19; clear HB; have HO_17 := n0_; have HO_18 := n1_; have HO_19 := n2_; have HO754 := n3_; have HO756 := n4_; have HB := n5_; clear n0_ n1_ n2_ n3_ n4_ n5_; (try clear hb); (try clear hb2); (try clear hk); (try clear hi); (try clear ho0); (try clear ho1)) | ((with_reducible refine gate_callee (f := 6) rfl ?_); refine goesM_ (some 196) rfl rfl Try.func6 #[.int .i64 t734, .slice Ao75 t736.length co75, .slice Ao117 t741.length co117] rfl ?_; (with_reducible refine (impl_DividePolys.calls kj82 t734 _ _ t736 _ _ t741 t757 t758 t759 _ ?side1 ?side2 ?side3 ?side4 A89.out).mono ?_); (case side1 => exact cs ((Kd.R_reads' HO_18.out).2.2)); (case side2 => exact (Kd.R_reads' HO_18.out).2.1); (case side3 => exact cs ((Kd.R_reads' HO_19.out).2.2)); (case side4 => exact (Kd.R_reads' HO_19.out).2.1); rintro e w119 ⟨v760, v762, rfl, ho0, ho1, hb⟩; refine ⟨_, rfl, ?_⟩; have n0_ := Aside0.mk (Kd.R_mono (Kd.R_told (Kd.R_told (Kd.R_old (rs HO_17) hb) (Kd.R_base ho0)) (Kd.R_base ho1)) (fun _ h_ => h_.1)); have n1_ := Aside0.mk (Kd.R_mono (Kd.R_told (Kd.R_told (Kd.R_old (rs HO_18) hb) (Kd.R_base ho0)) (Kd.R_base ho1)) (fun _ h_ => h_.1)); have n2_ := Aside0.mk (Kd.R_mono (Kd.R_told (Kd.R_told (Kd.R_old (rs HO_19) hb) (Kd.R_base ho0)) (Kd.R_base ho1)) (fun _ h_ => h_.1)); have n3_ := Aside0.mk (Kd.R_mono (Kd.R_told (Kd.R_told (Kd.R_old (rs HO754) hb) (Kd.R_base ho0)) (Kd.R_base ho1)) (fun _ h_ => h_.1)); have n4_ := Aside0.mk (Kd.R_mono (Kd.R_told (Kd.R_told (Kd.R_old (rs HO756) hb) (Kd.R_base ho0)) (Kd.R_base ho1)) (fun _ h_ => h_.1)); have n5_ := Aside0.mk (Kd.R_lower (Kd.R_new' (Kd.R_new' (Kd.R_new' (Kd.R_new' (Kd.R_new' ho0 (Kd.R_lt (rs HO_17))) (Kd.R_lt (rs HO_18))) (Kd.R_lt (rs HO_19))) (Kd.R_lt (rs HO754))) (Kd.R_lt (rs HO756))) (below_size (bs HB))); have n6_ := Aside0.mk (Kd.R_lower (Kd.R_new' (Kd.R_new' (Kd.R_new' (Kd.R_new' (Kd.R_new' ho1 (Kd.R_lt (rs HO_17))) (Kd.R_lt (rs HO_18))) (Kd.R_lt (rs HO_19))) (Kd.R_lt (rs HO754))) (Kd.R_lt (rs HO756))) (below_size (bs HB))); have n7_ := Aside0.mk (below_step (bs HB) hb); clear HO_17; clear HO_18; clear HO_19; clear HO754; clear HO756; clear HB; have HO_17 := n0_; have HO_18 := n1_; have HO_19 := n2_; have HO754 := n3_; have HO756 := n4_; have HO761 := n5_; have HO763 := n6_; have HB := n7_; clear n0_ n1_ n2_ n3_ n4_ n5_ n6_ n7_; (try clear hb); (try clear hb2); (try clear hk); (try clear hi); (try clear ho0); (try clear ho1)))
                go_ret
                exact ⟨by first | rfl | (simp [errW_none, errW_some] <;> rfl) | (simp [*, errW_none, errW_some] <;> rfl), by repeat (first | (with_reducible first | exact HB.out | apply below_alloc | apply pw_below_drewN | apply below_drew1) | exact HB.out)⟩
              ·
               rw [if_neg c90] at H
               have c90b0 : (t752 == 0) = false := beq_eq_false_iff_ne.mpr c90
               have c90b1 : (t752 != 0) = true := bne_iff_ne.mpr c90
               (first | rw [c90b0] | (simp only [i64_w, i32_w]; rw [c90b0]) | skip)
               obtain rfl := Option.some.inj H
               obtain ⟨Ao120, co120, eo120⟩ := Kd.R_slice HO_19.out
               subst eo120
               go_wp2_with (first | ((with_reducible refine gate_callee (f := 6) rfl ?_); refine goesM_ (some 188) rfl rfl Try.func6 #[.int .i64 t734, .slice Ao74 t735.length co74, .slice Ao120 t741.length co120] rfl ?_; (with_reducible refine (impl_DividePolys.calls kj82 t734 _ _ t735 _ _ t741 t750 t751 t752 _ ?side1 ?side2 ?side3 ?side4 A88.out).mono ?_); (case side1 => exact cs ((Kd.R_reads' HO_17.out).2.2)); (case side2 => exact (Kd.R_reads' HO_17.out).2.1); (case side3 => exact cs ((Kd.R_reads' HO_19.out).2.2)); (case side4 => exact (Kd.R_reads' HO_19.out).2.1); rintro e w121 ⟨v753, v755, rfl, ho0, ho1, hb⟩; refine ⟨_, rfl, ?_⟩; have n0_ := Aside0.mk (Kd.R_mono (Kd.R_told (Kd.R_told (Kd.R_old (rs HO_17) hb) (Kd.R_base ho0)) (Kd.R_base ho1)) (fun _ h_ => h_.1)); have n1_ := Aside0.mk (Kd.R_mono (Kd.R_told (Kd.R_told (Kd.R_old (rs HO_18) hb) (Kd.R_base ho0)) (Kd.R_base ho1)) (fun _ h_ => h_.1)); have n2_ := Aside0.mk (Kd.R_mono (Kd.R_told (Kd.R_told (Kd.R_old (rs HO_19) hb) (Kd.R_base ho0)) (Kd.R_base ho1)) (fun _ h_ => h_.1)); have n3_ := Aside0.mk (Kd.R_lower (Kd.R_new' (Kd.R_new' (Kd.R_new' ho0 (Kd.R_lt (rs HO_17))) (Kd.R_lt (rs HO_18))) (Kd.R_lt (rs HO_19))) (below_size (bs HB))); have n4_ := Aside0.mk (Kd.R_lower (Kd.R_new' (Kd.R_new' (Kd.R_new' ho1 (Kd.R_lt (rs HO_17))) (Kd.R_lt (rs HO_18))) (Kd.R_lt (rs HO_19))) (below_size (bs HB))); have n5_ := Aside0.mk (below_step (bs HB) hb); clear HO_17; clear HO_18; clear HO_19; clear HB; have HO_17 := n0_; have HO_18 := n1_; have HO_19 := n2_; have HO754 := n3_; have HO756 := n4_; have HB := n5_; clear n0_ n1_ n2_ n3_ n4_ n5_; (try clear hb); (try clear hb2); (try clear hk); (try clear hi); (try clear ho0); (try clear ho1)) | ((with_reducible refine gate_callee (f := 6) rfl ?_); refine goesM_ (some 196) rfl rfl Try.func6 #[.int .i64 t734, .slice Ao75 t736.length co75, .slice Ao120 t741.length co120] rfl ?_; (with_reducible refine (impl_DividePolys.calls kj82 t734 _ _ t736 _ _ t741 t757 t758 t759 _ ?side1 ?side2 ?side3 ?side4 A89.out).mono ?_); (case side1 => exact cs ((Kd.R_reads' HO_18.out).2.2)); (case side2 => exact (Kd.R_reads' HO_18.out).2.1); (case side3 => exact cs ((Kd.R_reads' HO_19.out).2.2)); (case side4 => exact (Kd.R_reads' HO_19.out).2.1); rintro e w122 ⟨v760, v762, rfl, ho0, ho1, hb⟩; refine ⟨_, rfl, ?_⟩; have n0_ := Aside0.mk (Kd.R_mono (Kd.R_told (Kd.R_told (Kd.R_old (rs HO_17) hb) (Kd.R_base ho0)) (Kd.R_base ho1)) (fun _ h_ => h_.1)); have n1_ := Aside0.mk (Kd.R_mono (Kd.R_told (Kd.R_told (Kd.R_old (rs HO_18) hb) (Kd.R_base ho0)) (Kd.R_base ho1)) (fun _ h_ => h_.1)); have n2_ := Aside0.mk (Kd.R_mono (Kd.R_told (Kd.R_told (Kd.R_old (rs HO_19) hb) (Kd.R_base ho0)) (Kd.R_base ho1)) (fun _ h_ => h_.1)); have n3_ := Aside0.mk (Kd.R_mono (Kd.R_told (Kd.R_told (Kd.R_old (rs HO754) hb) (Kd.R_base ho0)) (Kd.R_base ho1)) (fun _ h_ => h_.1)); have n4_ := Aside0.mk (Kd.R_mono (Kd.R_told (Kd.R_told (Kd.R_old (rs HO756) hb) (Kd.R_base ho0)) (Kd.R_base ho1)) (fun _ h_ => h_.1)); have n5_ := Aside0.mk (Kd.R_lower (Kd.R_new' (Kd.R_new' (Kd.R_new' (Kd.R_new' (Kd.R_new' ho0 (Kd.R_lt (rs HO_17))) (Kd.R_lt (rs HO_18))) (Kd.R_lt (rs HO_19))) (Kd.R_lt (rs HO754))) (Kd.R_lt (rs HO756))) (below_size (bs HB))); have n6_ := Aside0.mk (Kd.R_lower (Kd.R_new' (Kd.R_new' (Kd.R_new' (Kd.R_new' (Kd.R_new' ho1 (Kd.R_lt (rs HO_17))) (Kd.R_lt (rs HO_18))) (Kd.R_lt (rs HO_19))) (Kd.R_lt (rs HO754))) (Kd.R_lt (rs HO756))) (below_size (bs HB))); have n7_ := Aside0.mk (below_step (bs HB) hb); clear HO_17; clear HO_18; clear HO_19; clear HO754; clear HO756; clear HB; have HO_17 := n0_; have HO_18 := n1_; have HO_19 := n2_; have HO754 := n3_; have HO756 := n4_; have HO761 := n5_; have HO763 := n6_; have HB := n7_; clear n0_ n1_ n2_ n3_ n4_ n5_ n6_ n7_; (try clear hb); (try clear hb2); (try clear hk); (try clear hi); (try clear ho0); (try clear ho1)))
               go_ret
               exact ⟨by first | rfl | (simp [errW_none, errW_some] <;> rfl) | (simp [*, errW_none, errW_some] <;> rfl), by repeat (first | (with_reducible first | exact HB.out | apply below_alloc | apply pw_below_drewN | apply below_drew1) | exact HB.out)⟩
             ·
              replace c87 := Bool.eq_false_iff.mpr c87
              subst c87
              have H1 : (laws_FnPolynomials.j4 kj82 l0) = some r := by rw [if_neg (show ¬ (false = true) by decide)] at H; exact H
              clear H
              have H := H1
              clear H1
              have H' := Aside0.mk H
              clear H
              go_wp2
              go_meet
              case rel => exact ⟨_, H', ⟨by have := HJ6.out; have := HJ31.out; have := HJ71.out; have := HJ82.out; first | omega | exact Nat.le_refl _⟩, ⟨by repeat (first | (with_reducible first | exact HB.out | apply below_alloc | apply pw_below_drewN | apply below_drew1) | exact HB.out)⟩⟩
            case rest => as_aux_lemma =>
             clear HC86
             try clear c1
             try clear p2
             try clear c3
             try clear c4
             try clear c5
             try clear c6
             try clear p6
             try clear c7
             try clear p7
             try clear q7
             try clear hx7
             try clear c8
             try clear c9
             try clear c11
             try clear c12
             try clear c13
             try clear c13b0
             try clear c13b1
             try clear c14
             try clear c15
             try clear c17
             try clear c31
             try clear c33
             try clear c33b0
             try clear c33b1
             try clear c36
             try clear c36b0
             try clear c36b1
             try clear c37
             try clear c37b0
             try clear c37b1
             try clear c39
             try clear c40
             try clear c40b0
             try clear c40b1
             try clear p64
             try clear p76
             try clear q76
             try clear hx76
             try clear c78
             try clear c78b0
             try clear c78b1
             try clear c82
             try clear c84
             try clear c84b0
             try clear c84b1
             try clear c87
             try clear c90
             try clear c90b0
             try clear c90b1
             try clear c91
             try clear c91b0
             try clear c91b1
             try clear c92
             try clear c92b0
             try clear c92b1
             try clear c92b2
             try clear c93
             try clear c93b0
             try clear c93b1
             try clear c93b2
             try clear c95
             try clear c95b0
             try clear c96
             try clear c96b0
             try clear c97
             try clear c97b0
             try clear c97b1
             try clear hx764_0
             try clear p2
             try clear p764
             try clear q764
             obtain ⟨kq, HA, HJ85, HB⟩ := hcut
             cases kq with
             | zero => exact absurd HA.out (by simp [laws_FnPolynomials.j4])
             | succ kj85 =>
              have H := HA.out
              clear HA
              simp only [laws_FnPolynomials.j4] at H
              replace H := Option.bind_eq_some_iff.mp H
              obtain ⟨⟨t765, t766, t767⟩, A1230, H⟩ := H
              have A123 := Aside0.mk A1230
              clear A1230
              replace H := Option.bind_eq_some_iff.mp H
              obtain ⟨⟨t772, t773⟩, A1240, H⟩ := H
              have A124 := Aside0.mk A1240
              clear A1240
              replace H := Option.bind_eq_some_iff.mp H
              obtain ⟨⟨t776, t779⟩, A1250, H⟩ := H
              have A125 := Aside0.mk A1250
              clear A1250
              have HC126 := Aside0.mk H
              clear H
              go_upto_region 26 with (first | ((with_reducible refine gate_callee (f := 16) rfl ?_); refine goesM_ (some 227) rfl rfl Try.func16 #[.slice A0 l0.length c0] rfl ?_; (with_reducible refine (spec_DrawMultiplyPolys.calls kj85 _ _ l0 t765 t766 t767 _ ?side1 ?side2 A123.out).mono ?_); (case side1 => exact cs ((Kd.C_below HR0.out HB.out))); (case side2 => exact HC0.out); rintro e w127 ⟨v768, v770, rfl, ho0, ho1, hb⟩; refine ⟨_, rfl, ?_⟩; have n0_ := Aside0.mk (Kd.R_lower ho0 (below_size (bs HB))); have n1_ := Aside0.mk (Kd.R_lower ho1 (below_size (bs HB))); have n2_ := Aside0.mk (below_step (bs HB) hb); clear HB; have HO769 := n0_; have HO771 := n1_; have HB := n2_; clear n0_ n1_ n2_; (try clear hb); (try clear hb2); (try clear hk); (try clear hi); (try clear ho0); (try clear ho1); obtain ⟨Ao128, co128, eo128⟩ := Kd.R_slice HO769.out; subst eo128; obtain ⟨Ao129, co129, eo129⟩ := Kd.R_slice HO771.out; subst eo129) | ((with_reducible refine gate_callee (f := 11) rfl ?_); refine goesM_ (some 235) rfl rfl Try.func11 #[.int .i64 t765, .slice Ao128 t766.length co128, .slice Ao129 t767.length co129] rfl ?_; (with_reducible refine (impl_MultiplyPolys.calls kj85 t765 _ _ t766 _ _ t767 t772 t773 _ ?side1 ?side2 ?side3 ?side4 A124.out).mono ?_); (case side1 => exact cs ((Kd.R_reads' HO769.out).2.2)); (case side2 => exact (Kd.R_reads' HO769.out).2.1); (case side3 => exact cs ((Kd.R_reads' HO771.out).2.2)); (case side4 => exact (Kd.R_reads' HO771.out).2.1); rintro e w130 ⟨v774, rfl, ho0, hb⟩; refine ⟨_, rfl, ?_⟩; have n0_ := Aside0.mk (Kd.R_elder' (rs HO769) (Kd.R_base ho0) hb); have n1_ := Aside0.mk (Kd.R_elder' (rs HO771) (Kd.R_base ho0) hb); have n2_ := Aside0.mk (Kd.R_lower (Kd.R_new' (Kd.R_new' ho0 (Kd.R_lt (rs HO769))) (Kd.R_lt (rs HO771))) (below_size (bs HB))); have n3_ := Aside0.mk (below_step (bs HB) hb); clear HO769; clear HO771; clear HB; have HO769 := n0_; have HO771 := n1_; have HO775 := n2_; have HB := n3_; clear n0_ n1_ n2_ n3_; (try clear hb); (try clear hb2); (try clear hk); (try clear hi); (try clear ho0)) | ((with_reducible refine gate_callee (f := 17) rfl ?_); refine goesM_ (some 242) rfl rfl Try.func17 #[.int .i64 t765, .slice Ao128 t766.length co128, .slice Ao129 t767.length co129] rfl ?_; (with_reducible refine (spec_MultiplyPolys.calls kj85 t765 (fun k_ => some k_ = (.slice Ao128 t766.length co128 : Value).ownBlock) _ _ t766 (fun k_ => some k_ = (.slice Ao129 t767.length co129 : Value).ownBlock) _ _ t767 t776 t779 _ ?side1 ?side2 A125.out).mono ?_); (case side1 => exact Kd.R_V (Kd.R_tight rfl (HO769.out))); (case side2 => exact Kd.R_V (Kd.R_tight rfl (HO771.out))); rintro e w131 ⟨v777, rfl, ho0, hb⟩; refine ⟨_, rfl, ?_⟩; have n0_ := Aside0.mk (Kd.R_elder' (rs HO769) (Kd.R_base ho0) hb); have n1_ := Aside0.mk (Kd.R_elder' (rs HO771) (Kd.R_base ho0) hb); have n2_ := Aside0.mk (Kd.R_elder' (rs HO775) (Kd.R_base ho0) hb); have n3_ := Aside0.mk (Kd.R_lower (Kd.R_new' (Kd.R_new' (Kd.R_new' (Kd.R_mono (ok' := fun k_ => True) ho0 (fun _ hk_ => trivial)) (Kd.R_lt (rs HO769))) (Kd.R_lt (rs HO771))) (Kd.R_lt (rs HO775))) (below_size (bs HB))); have n4_ := Aside0.mk (below_step (bs HB) hb); clear HO769; clear HO771; clear HO775; clear HB; have HO769 := n0_; have HO771 := n1_; have HO775 := n2_; have HO778 := n3_; have HB := n4_; clear n0_ n1_ n2_ n3_ n4_; (try clear hb); (try clear hb2); (try clear hk); (try clear hi); (try clear ho0)))
              (try simp only [Act.put, List.setIfInBounds_toArray, List.set_cons_zero, List.set_cons_succ])
              go_cut [253] from 225 to 244 (fun v253 wc => ∃ (kq : Nat) (x253_125 : Bool), v253 = .bool x253_125 ∧ Aside0 (laws_FnPolynomials.j5 kq l0 t765 t766 t767 t772 t773 x253_125 = some r) ∧ Aside0 (kq ≤ kj85) ∧ Aside0 (Kd.R (Kd.int .i64) 2 wc w.heap.size (fun k_ => some k_ ≠ ((.slice Ao129 t767.length co129) : Value).ownBlock ∧ some k_ ≠ (v774 : Value).ownBlock) (.slice Ao128 t766.length co128) t766) ∧ Aside0 (Kd.R (Kd.int .i64) 2 wc w.heap.size (fun k_ => some k_ ≠ ((.slice Ao128 t766.length co128) : Value).ownBlock ∧ some k_ ≠ (v774 : Value).ownBlock) (.slice Ao129 t767.length co129) t767) ∧ Aside0 (Kd.R (Kd.int .i64) 2 wc w.heap.size (fun k_ => some k_ ≠ ((.slice Ao128 t766.length co128) : Value).ownBlock ∧ some k_ ≠ ((.slice Ao129 t767.length co129) : Value).ownBlock) v774 t772) ∧ Aside0 (Below w.heap.size w wc))
              case first =>
               have H := HC126.out
               clear HC126
               by_cases c132 : t773 = t779
               ·
                rw [if_pos c132] at H
                have c132b0 : (t773 == t779) = true := beq_iff_eq.mpr c132
                have c132b1 : (t773 != t779) = false := bne_eq_false_iff_eq.mpr c132
                clear c132
                (first | rw [c132b0] | (simp only [i64_w, i32_w]; rw [c132b0]) | skip)
                replace H := Option.bind_eq_some_iff.mp H
                obtain ⟨t780, A1330, H⟩ := H
                have A133 := Aside0.mk A1330
                clear A1330
                have H' := Aside0.mk H
                clear H
                obtain ⟨Ao134, co134, eo134⟩ := Kd.R_slice HO775.out
                subst eo134
                obtain ⟨Ao135, co135, eo135⟩ := Kd.R_slice HO778.out
                subst eo135
                go_wp2_with (first | (go_at_call 8; (with_reducible refine (laws_likeInts.calls kj85 _ _ t772 _ _ t776 t780 _ ?side1 ?side2 ?side3 ?side4 A133.out).mono ?_); (case side1 => exact cs ((Kd.R_reads' HO775.out).2.2)); (case side2 => exact (Kd.R_reads' HO775.out).2.1); (case side3 => exact cs ((Kd.R_reads' HO778.out).2.2)); (case side4 => exact (Kd.R_reads' HO778.out).2.1); rintro e w' ⟨rfl, ⟨nd, rfl⟩⟩))
                go_meet
                case rel => exact ⟨_, (!t780), ea_, H', ⟨by have := HJ6.out; have := HJ31.out; have := HJ71.out; have := HJ82.out; have := HJ85.out; first | omega | exact Nat.le_refl _⟩, ⟨by (with_reducible repeat (first | apply Kd.R_alloc | apply Kd.R_drewN | apply Kd.R_drew)); exact Kd.R_mono HO769.out (fun _ hk => ⟨hk.1.1, hk.1.2⟩)⟩, ⟨by (with_reducible repeat (first | apply Kd.R_alloc | apply Kd.R_drewN | apply Kd.R_drew)); exact Kd.R_mono HO771.out (fun _ hk => ⟨hk.1.1, hk.1.2⟩)⟩, ⟨by (with_reducible repeat (first | apply Kd.R_alloc | apply Kd.R_drewN | apply Kd.R_drew)); exact Kd.R_mono HO775.out (fun _ hk => ⟨hk.1.1.2, hk.1.2⟩)⟩, ⟨by repeat (first | (with_reducible first | exact HB.out | apply below_alloc | apply pw_below_drewN | apply below_drew1) | exact HB.out)⟩⟩
               ·
                rw [if_neg c132] at H
                have c132b0 : (t773 == t779) = false := beq_eq_false_iff_ne.mpr c132
                have c132b1 : (t773 != t779) = true := bne_iff_ne.mpr c132
                (first | rw [c132b0] | (simp only [i64_w, i32_w]; rw [c132b0]) | skip)
                have H' := Aside0.mk H
                clear H
                go_wp2
                go_meet
                case rel => exact ⟨_, (true), ea_, H', ⟨by have := HJ6.out; have := HJ31.out; have := HJ71.out; have := HJ82.out; have := HJ85.out; first | omega | exact Nat.le_refl _⟩, ⟨by (with_reducible repeat (first | apply Kd.R_alloc | apply Kd.R_drewN | apply Kd.R_drew)); exact Kd.R_mono HO769.out (fun _ hk => ⟨hk.1.1, hk.1.2⟩)⟩, ⟨by (with_reducible repeat (first | apply Kd.R_alloc | apply Kd.R_drewN | apply Kd.R_drew)); exact Kd.R_mono HO771.out (fun _ hk => ⟨hk.1.1, hk.1.2⟩)⟩, ⟨by (with_reducible repeat (first | apply Kd.R_alloc | apply Kd.R_drewN | apply Kd.R_drew)); exact Kd.R_mono HO775.out (fun _ hk => ⟨hk.1.1.2, hk.1.2⟩)⟩, ⟨by repeat (first | (with_reducible first | exact HB.out | apply below_alloc | apply pw_below_drewN | apply below_drew1) | exact HB.out)⟩⟩
              case rest => as_aux_lemma =>
               clear HC126
               try clear c1
               try clear p2
               try clear c3
               try clear c4
               try clear c5
               try clear c6
               try clear p6
               try clear c7
               try clear p7
               try clear q7
               try clear hx7
               try clear c8
               try clear c9
               try clear c11
               try clear c12
               try clear c13
               try clear c13b0
               try clear c13b1
               try clear c14
               try clear c15
               try clear c16
               try clear c17
               try clear c31
               try clear c33
               try clear c33b0
               try clear c33b1
               try clear c36
               try clear c36b0
               try clear c36b1
               try clear c37
               try clear c37b0
               try clear c37b1
               try clear c39
               try clear c40
               try clear c40b0
               try clear c40b1
               try clear p64
               try clear p76
               try clear q76
               try clear hx76
               try clear c78
               try clear c78b0
               try clear c78b1
               try clear c82
               try clear c84
               try clear c84b0
               try clear c84b1
               try clear c87
               try clear c90
               try clear c90b0
               try clear c90b1
               try clear c91
               try clear c91b0
               try clear c91b1
               try clear c92
               try clear c92b0
               try clear c92b1
               try clear c92b2
               try clear c93
               try clear c93b0
               try clear c93b1
               try clear c93b2
               try clear c95
               try clear c95b0
               try clear c96
               try clear c96b0
               try clear c97
               try clear c97b0
               try clear c97b1
               try clear c132
               try clear c132b0
               try clear c132b1
               try clear hx764_0
               try clear p2
               try clear p6
               try clear p64
               try clear p7
               try clear p76
               try clear p764
               try clear q7
               try clear q76
               try clear q764
               obtain ⟨kq, x253_125, rfl, HA, HJ125, HO_30, HO_31, HO_32, HB⟩ := hcut
               cases kq with
               | zero => exact absurd HA.out (by simp [laws_FnPolynomials.j5])
               | succ kj125 =>
                have H := HA.out
                clear HA
                simp only [laws_FnPolynomials.j5] at H
                by_cases c136 : x253_125 = true
                ·
                 subst c136
                 have H1 : (some false) = some r := by rw [if_pos rfl] at H; exact H
                 clear H
                 have H := H1
                 clear H1
                 obtain rfl := Option.some.inj H
                 go_wp2
                 go_ret
                 exact ⟨by first | rfl | (simp [errW_none, errW_some] <;> rfl) | (simp [*, errW_none, errW_some] <;> rfl), by repeat (first | (with_reducible first | exact HB.out | apply below_alloc | apply pw_below_drewN | apply below_drew1) | exact HB.out)⟩
                ·
                 replace c136 := Bool.eq_false_iff.mpr c136
                 subst c136
                 have H1 : (if t773 = 0 then ((impl_MultiplyPolys.f kj125 t765 t767 t766).bind fun bt781 => (if bt781.2 = 0 then ((laws_likeInts.f kj125 bt781.1 t772).bind fun t785 => (if t785 = true then (laws_FnPolynomials.j6 kj125 l0) else (some false))) else (some false))) else (laws_FnPolynomials.j6 kj125 l0)) = some r := by rw [if_neg (show ¬ (false = true) by decide)] at H; exact H
                 clear H
                 have H := H1
                 clear H1
                 have HC137 := Aside0.mk H
                 clear H
                 go_upto_if 255 with (fail)
                 go_cut [] from 254 to 255 (fun wc => ∃ (kq : Nat), Aside0 (laws_FnPolynomials.j6 kq l0 = some r) ∧ Aside0 (kq ≤ kj125) ∧ Aside0 (Below w.heap.size w wc))
                 case first =>
                  have H := HC137.out
                  clear HC137
                  by_cases c138 : t773 = 0
                  ·
                   rw [if_pos c138] at H
                   have c138b0 : (t773 == 0) = true := beq_iff_eq.mpr c138
                   have c138b1 : (t773 != 0) = false := bne_eq_false_iff_eq.mpr c138
                   clear c138
                   (first | rw [c138b0] | (simp only [i64_w, i32_w]; rw [c138b0]) | skip)
                   replace H := Option.bind_eq_some_iff.mp H
                   obtain ⟨⟨t781, t782⟩, A1390, H⟩ := H
                   have A139 := Aside0.mk A1390
                   clear A1390
                   by_cases c140 : t782 = 0
                   ·
                    rw [if_pos c140] at H
                    have c140b0 : (t782 == 0) = true := beq_iff_eq.mpr c140
                    have c140b1 : (t782 != 0) = false := bne_eq_false_iff_eq.mpr c140
                    clear c140
                    replace H := Option.bind_eq_some_iff.mp H
                    obtain ⟨t785, A1410, H⟩ := H
                    have A141 := Aside0.mk A1410
                    clear A1410
                    by_cases c142 : t785 = true
                    ·
                     subst c142
                     have H1 : (laws_FnPolynomials.j6 kj125 l0) = some r := by rw [if_pos rfl] at H; exact H
                     clear H
                     have H := H1
                     clear H1
                     have H' := Aside0.mk H
                     clear H
                     go_wp2_with (first | ((with_reducible refine gate_callee (f := 11) rfl ?_); refine goesM_ (some 260) rfl rfl Try.func11 #[.int .i64 t765, .slice Ao129 t767.length co129, .slice Ao128 t766.length co128] rfl ?_; (with_reducible refine (impl_MultiplyPolys.calls kj125 t765 _ _ t767 _ _ t766 t781 t782 _ ?side1 ?side2 ?side3 ?side4 A139.out).mono ?_); (case side1 => exact cs ((Kd.R_reads' HO_31.out).2.2)); (case side2 => exact (Kd.R_reads' HO_31.out).2.1); (case side3 => exact cs ((Kd.R_reads' HO_30.out).2.2)); (case side4 => exact (Kd.R_reads' HO_30.out).2.1); rintro e w143 ⟨v783, rfl, ho0, hb⟩; refine ⟨_, rfl, ?_⟩; have n0_ := Aside0.mk (Kd.R_elder' (rs HO_30) (Kd.R_base ho0) hb); have n1_ := Aside0.mk (Kd.R_elder' (rs HO_31) (Kd.R_base ho0) hb); have n2_ := Aside0.mk (Kd.R_elder' (rs HO_32) (Kd.R_base ho0) hb); have n3_ := Aside0.mk (Kd.R_lower (Kd.R_new' (Kd.R_new' (Kd.R_new' ho0 (Kd.R_lt (rs HO_30))) (Kd.R_lt (rs HO_31))) (Kd.R_lt (rs HO_32))) (below_size (bs HB))); have n4_ := Aside0.mk (below_step (bs HB) hb); clear HO_30; clear HO_31; clear HO_32; clear HB; have HO_30 := n0_; have HO_31 := n1_; have HO_32 := n2_; have HO784 := n3_; have HB := n4_; clear n0_ n1_ n2_ n3_ n4_; (try clear hb); (try clear hb2); (try clear hk); (try clear hi); (try clear ho0); obtain ⟨Ao144, co144, eo144⟩ := Kd.R_slice HO784.out; subst eo144; obtain ⟨Ao145, co145, eo145⟩ := Kd.R_slice HO_32.out; subst eo145) | (go_at_call 8; (with_reducible refine (laws_likeInts.calls kj125 _ _ t781 _ _ t772 true _ ?side1 ?side2 ?side3 ?side4 A141.out).mono ?_); (case side1 => exact cs ((Kd.R_reads' HO784.out).2.2)); (case side2 => exact (Kd.R_reads' HO784.out).2.1); (case side3 => exact cs ((Kd.R_reads' HO_32.out).2.2)); (case side4 => exact (Kd.R_reads' HO_32.out).2.1); rintro e w' ⟨rfl, ⟨nd, rfl⟩⟩))
                     go_meet
                     case rel => exact ⟨_, H', ⟨by have := HJ6.out; have := HJ31.out; have := HJ71.out; have := HJ82.out; have := HJ85.out; have := HJ125.out; first | omega | exact Nat.le_refl _⟩, ⟨by repeat (first | (with_reducible first | exact HB.out | apply below_alloc | apply pw_below_drewN | apply below_drew1) | exact HB.out)⟩⟩
                    ·
                     replace c142 := Bool.eq_false_iff.mpr c142
                     subst c142
                     have H1 : (some false) = some r := by rw [if_neg (show ¬ (false = true) by decide)] at H; exact H
                     clear H
                     have H := H1
                     clear H1
                     obtain rfl := Option.some.inj H
                     go_wp2_with (first | ((with_reducible refine gate_callee (f := 11) rfl ?_); refine goesM_ (some 260) rfl rfl Try.func11 #[.int .i64 t765, .slice Ao129 t767.length co129, .slice Ao128 t766.length co128] rfl ?_; (with_reducible refine (impl_MultiplyPolys.calls kj125 t765 _ _ t767 _ _ t766 t781 t782 _ ?side1 ?side2 ?side3 ?side4 A139.out).mono ?_); (case side1 => exact cs ((Kd.R_reads' HO_31.out).2.2)); (case side2 => exact (Kd.R_reads' HO_31.out).2.1); (case side3 => exact cs ((Kd.R_reads' HO_30.out).2.2)); (case side4 => exact (Kd.R_reads' HO_30.out).2.1); rintro e w146 ⟨v783, rfl, ho0, hb⟩; refine ⟨_, rfl, ?_⟩; have n0_ := Aside0.mk (Kd.R_elder' (rs HO_30) (Kd.R_base ho0) hb); have n1_ := Aside0.mk (Kd.R_elder' (rs HO_31) (Kd.R_base ho0) hb); have n2_ := Aside0.mk (Kd.R_elder' (rs HO_32) (Kd.R_base ho0) hb); have n3_ := Aside0.mk (Kd.R_lower (Kd.R_new' (Kd.R_new' (Kd.R_new' ho0 (Kd.R_lt (rs HO_30))) (Kd.R_lt (rs HO_31))) (Kd.R_lt (rs HO_32))) (below_size (bs HB))); have n4_ := Aside0.mk (below_step (bs HB) hb); clear HO_30; clear HO_31; clear HO_32; clear HB; have HO_30 := n0_; have HO_31 := n1_; have HO_32 := n2_; have HO784 := n3_; have HB := n4_; clear n0_ n1_ n2_ n3_ n4_; (try clear hb); (try clear hb2); (try clear hk); (try clear hi); (try clear ho0); obtain ⟨Ao147, co147, eo147⟩ := Kd.R_slice HO784.out; subst eo147; obtain ⟨Ao148, co148, eo148⟩ := Kd.R_slice HO_32.out; subst eo148) | (go_at_call 8; (with_reducible refine (laws_likeInts.calls kj125 _ _ t781 _ _ t772 false _ ?side1 ?side2 ?side3 ?side4 A141.out).mono ?_); (case side1 => exact cs ((Kd.R_reads' HO784.out).2.2)); (case side2 => exact (Kd.R_reads' HO784.out).2.1); (case side3 => exact cs ((Kd.R_reads' HO_32.out).2.2)); (case side4 => exact (Kd.R_reads' HO_32.out).2.1); rintro e w' ⟨rfl, ⟨nd, rfl⟩⟩))
                     go_ret
                     exact ⟨by first | rfl | (simp [errW_none, errW_some] <;> rfl) | (simp [*, errW_none, errW_some] <;> rfl), by repeat (first | (with_reducible first | exact HB.out | apply below_alloc | apply pw_below_drewN | apply below_drew1) | exact HB.out)⟩
                   ·
                    rw [if_neg c140] at H
                    have c140b0 : (t782 == 0) = false := beq_eq_false_iff_ne.mpr c140
                    have c140b1 : (t782 != 0) = true := bne_iff_ne.mpr c140
                    obtain rfl := Option.some.inj H
                    go_wp2_with (first | ((with_reducible refine gate_callee (f := 11) rfl ?_); refine goesM_ (some 260) rfl rfl Try.func11 #[.int .i64 t765, .slice Ao129 t767.length co129, .slice Ao128 t766.length co128] rfl ?_; (with_reducible refine (impl_MultiplyPolys.calls kj125 t765 _ _ t767 _ _ t766 t781 t782 _ ?side1 ?side2 ?side3 ?side4 A139.out).mono ?_); (case side1 => exact cs ((Kd.R_reads' HO_31.out).2.2)); (case side2 => exact (Kd.R_reads' HO_31.out).2.1); (case side3 => exact cs ((Kd.R_reads' HO_30.out).2.2)); (case side4 => exact (Kd.R_reads' HO_30.out).2.1); rintro e w149 ⟨v783, rfl, ho0, hb⟩; refine ⟨_, rfl, ?_⟩; have n0_ := Aside0.mk (Kd.R_elder' (rs HO_30) (Kd.R_base ho0) hb); have n1_ := Aside0.mk (Kd.R_elder' (rs HO_31) (Kd.R_base ho0) hb); have n2_ := Aside0.mk (Kd.R_elder' (rs HO_32) (Kd.R_base ho0) hb); have n3_ := Aside0.mk (Kd.R_lower (Kd.R_new' (Kd.R_new' (Kd.R_new' ho0 (Kd.R_lt (rs HO_30))) (Kd.R_lt (rs HO_31))) (Kd.R_lt (rs HO_32))) (below_size (bs HB))); have n4_ := Aside0.mk (below_step (bs HB) hb); clear HO_30; clear HO_31; clear HO_32; clear HB; have HO_30 := n0_; have HO_31 := n1_; have HO_32 := n2_; have HO784 := n3_; have HB := n4_; clear n0_ n1_ n2_ n3_ n4_; (try clear hb); (try clear hb2); (try clear hk); (try clear hi); (try clear ho0)))
                    go_ret
                    exact ⟨by first | rfl | (simp [errW_none, errW_some] <;> rfl) | (simp [*, errW_none, errW_some] <;> rfl), by repeat (first | (with_reducible first | exact HB.out | apply below_alloc | apply pw_below_drewN | apply below_drew1) | exact HB.out)⟩
                  ·
                   rw [if_neg c138] at H
                   have c138b0 : (t773 == 0) = false := beq_eq_false_iff_ne.mpr c138
                   have c138b1 : (t773 != 0) = true := bne_iff_ne.mpr c138
                   (first | rw [c138b0] | (simp only [i64_w, i32_w]; rw [c138b0]) | skip)
                   have H' := Aside0.mk H
                   clear H
                   go_wp2
                   go_meet
                   case rel => exact ⟨_, H', ⟨by have := HJ6.out; have := HJ31.out; have := HJ71.out; have := HJ82.out; have := HJ85.out; have := HJ125.out; first | omega | exact Nat.le_refl _⟩, ⟨by repeat (first | (with_reducible first | exact HB.out | apply below_alloc | apply pw_below_drewN | apply below_drew1) | exact HB.out)⟩⟩
                 case rest => as_aux_lemma =>
                  clear HC137
                  try clear c1
                  try clear p2
                  try clear c3
                  try clear c4
                  try clear c5
                  try clear c6
                  try clear p6
                  try clear c7
                  try clear p7
                  try clear q7
                  try clear hx7
                  try clear c8
                  try clear c9
                  try clear c11
                  try clear c12
                  try clear c13
                  try clear c13b0
                  try clear c13b1
                  try clear c14
                  try clear c15
                  try clear c16
                  try clear c17
                  try clear c31
                  try clear c33
                  try clear c33b0
                  try clear c33b1
                  try clear c36
                  try clear c36b0
                  try clear c36b1
                  try clear c37
                  try clear c37b0
                  try clear c37b1
                  try clear c39
                  try clear c40
                  try clear c40b0
                  try clear c40b1
                  try clear p64
                  try clear p76
                  try clear q76
                  try clear hx76
                  try clear c78
                  try clear c78b0
                  try clear c78b1
                  try clear c82
                  try clear c84
                  try clear c84b0
                  try clear c84b1
                  try clear c87
                  try clear c90
                  try clear c90b0
                  try clear c90b1
                  try clear c91
                  try clear c91b0
                  try clear c91b1
                  try clear c92
                  try clear c92b0
                  try clear c92b1
                  try clear c92b2
                  try clear c93
                  try clear c93b0
                  try clear c93b1
                  try clear c93b2
                  try clear c95
                  try clear c95b0
                  try clear c96
                  try clear c96b0
                  try clear c97
                  try clear c97b0
                  try clear c97b1
                  try clear c132
                  try clear c132b0
                  try clear c132b1
                  try clear c136
                  try clear c138
                  try clear c138b0
                  try clear c138b1
                  try clear c140
                  try clear c140b0
                  try clear c140b1
                  try clear c142
                  try clear hx764_0
                  try clear p2
                  try clear p6
                  try clear p64
                  try clear p7
                  try clear p76
                  try clear p764
                  try clear q7
                  try clear q76
                  try clear q764
                  obtain ⟨kq, HA, HJ136, HB⟩ := hcut
                  cases kq with
                  | zero => exact absurd HA.out (by simp [laws_FnPolynomials.j6])
                  | succ kj136 =>
                   have H := HA.out
                   clear HA
                   simp only [laws_FnPolynomials.j6] at H
                   replace H := Option.bind_eq_some_iff.mp H
                   obtain ⟨⟨t786, t787, t788⟩, A1500, H⟩ := H
                   have A150 := Aside0.mk A1500
                   clear A1500
                   replace H := Option.bind_eq_some_iff.mp H
                   obtain ⟨⟨t791, t792⟩, A1510, H⟩ := H
                   have A151 := Aside0.mk A1510
                   clear A1510
                   replace H := Option.bind_eq_some_iff.mp H
                   obtain ⟨⟨t795, t798⟩, A1520, H⟩ := H
                   have A152 := Aside0.mk A1520
                   clear A1520
                   replace H := Option.bind_eq_some_iff.mp H
                   obtain ⟨⟨t799, t800⟩, A1530, H⟩ := H
                   have A153 := Aside0.mk A1530
                   clear A1530
                   replace H := Option.bind_eq_some_iff.mp H
                   obtain ⟨⟨t803, t804⟩, A1540, H⟩ := H
                   have A154 := Aside0.mk A1540
                   clear A1540
                   replace H := Option.bind_eq_some_iff.mp H
                   obtain ⟨⟨t807, t810⟩, A1550, H⟩ := H
                   have A155 := Aside0.mk A1550
                   clear A1550
                   replace H := Option.bind_eq_some_iff.mp H
                   obtain ⟨⟨t811, t812, t813, t814⟩, A1560, H⟩ := H
                   have A156 := Aside0.mk A1560
                   clear A1560
                   replace H := Option.bind_eq_some_iff.mp H
                   obtain ⟨⟨t819, t820⟩, A1570, H⟩ := H
                   have A157 := Aside0.mk A1570
                   clear A1570
                   replace H := Option.bind_eq_some_iff.mp H
                   obtain ⟨⟨t823, t826⟩, A1580, H⟩ := H
                   have A158 := Aside0.mk A1580
                   clear A1580
                   replace H := Option.bind_eq_some_iff.mp H
                   obtain ⟨⟨t827, t828⟩, A1590, H⟩ := H
                   have A159 := Aside0.mk A1590
                   clear A1590
                   replace H := Option.bind_eq_some_iff.mp H
                   obtain ⟨⟨t831, t832⟩, A1600, H⟩ := H
                   have A160 := Aside0.mk A1600
                   clear A1600
                   replace H := Option.bind_eq_some_iff.mp H
                   obtain ⟨⟨t835, t838⟩, A1610, H⟩ := H
                   have A161 := Aside0.mk A1610
                   clear A1610
                   go_upto_region 44 with (first | ((with_reducible refine gate_callee (f := 18) rfl ?_); refine goesM_ (some 273) rfl rfl Try.func18 #[.slice A0 l0.length c0] rfl ?_; (with_reducible refine (spec_DrawPowerPoly.calls kj136 _ _ l0 t786 t787 t788 _ ?side1 ?side2 A150.out).mono ?_); (case side1 => exact cs ((Kd.C_below HR0.out HB.out))); (case side2 => exact HC0.out); rintro e w173 ⟨v789, rfl, ho0, hb⟩; refine ⟨_, rfl, ?_⟩; have n0_ := Aside0.mk (Kd.R_lower ho0 (below_size (bs HB))); have n1_ := Aside0.mk (below_step (bs HB) hb); clear HB; have HO790 := n0_; have HB := n1_; clear n0_ n1_; (try clear hb); (try clear hb2); (try clear hk); (try clear hi); (try clear ho0); obtain ⟨Ao174, co174, eo174⟩ := Kd.R_slice HO790.out; subst eo174) | ((with_reducible refine gate_callee (f := 19) rfl ?_); refine goesM_ (some 281) rfl rfl Try.func19 #[.int .i64 t786, .slice Ao174 t787.length co174, .int .i64 t788] rfl ?_; (with_reducible refine (impl_PowerPoly.calls kj136 t786 _ _ t787 t788 t791 t792 _ ?side1 ?side2 A151.out).mono ?_); (case side1 => exact cs ((Kd.R_reads' HO790.out).2.2)); (case side2 => exact (Kd.R_reads' HO790.out).2.1); rintro e w175 ⟨v793, rfl, ho0, hb⟩; refine ⟨_, rfl, ?_⟩; have n0_ := Aside0.mk (Kd.R_elder' (rs HO790) (Kd.R_base ho0) hb); have n1_ := Aside0.mk (Kd.R_lower (Kd.R_new' ho0 (Kd.R_lt (rs HO790))) (below_size (bs HB))); have n2_ := Aside0.mk (below_step (bs HB) hb); clear HO790; clear HB; have HO790 := n0_; have HO794 := n1_; have HB := n2_; clear n0_ n1_ n2_; (try clear hb); (try clear hb2); (try clear hk); (try clear hi); (try clear ho0)) | ((with_reducible refine gate_callee (f := 20) rfl ?_); refine goesM_ (some 288) rfl rfl Try.func20 #[.int .i64 t786, .slice Ao174 t787.length co174, .int .i64 t788] rfl ?_; (with_reducible refine (spec_PowerPoly.calls kj136 t786 (fun k_ => some k_ = (.slice Ao174 t787.length co174 : Value).ownBlock) _ _ t787 t788 t795 t798 _ ?side1 A152.out).mono ?_); (case side1 => exact Kd.R_V (Kd.R_tight rfl (HO790.out))); rintro e w176 ⟨v796, rfl, ho0, hb⟩; refine ⟨_, rfl, ?_⟩; have n0_ := Aside0.mk (Kd.R_elder' (rs HO790) (Kd.R_base ho0) hb); have n1_ := Aside0.mk (Kd.R_elder' (rs HO794) (Kd.R_base ho0) hb); have n2_ := Aside0.mk (Kd.R_lower (Kd.R_new' (Kd.R_new' (Kd.R_mono (ok' := fun k_ => True) ho0 (fun _ hk_ => trivial)) (Kd.R_lt (rs HO790))) (Kd.R_lt (rs HO794))) (below_size (bs HB))); have n3_ := Aside0.mk (below_step (bs HB) hb); clear HO790; clear HO794; clear HB; have HO790 := n0_; have HO794 := n1_; have HO797 := n2_; have HB := n3_; clear n0_ n1_ n2_ n3_; (try clear hb); (try clear hb2); (try clear hk); (try clear hi); (try clear ho0)) | ((with_reducible refine gate_callee (f := 21) rfl ?_); refine goesM_ (some 293) rfl rfl Try.func21 #[.slice A0 l0.length c0] rfl ?_; (with_reducible refine (spec_DrawMonicPoly.calls kj136 _ _ l0 t799 t800 _ ?side1 ?side2 A153.out).mono ?_); (case side1 => exact cs ((Kd.C_below HR0.out HB.out))); (case side2 => exact HC0.out); rintro e w177 ⟨v801, rfl, ho0, hb⟩; refine ⟨_, rfl, ?_⟩; have n0_ := Aside0.mk (Kd.R_elder' (rs HO790) (Kd.R_base ho0) hb); have n1_ := Aside0.mk (Kd.R_elder' (rs HO794) (Kd.R_base ho0) hb); have n2_ := Aside0.mk (Kd.R_elder' (rs HO797) (Kd.R_base ho0) hb); have n3_ := Aside0.mk (Kd.R_lower (Kd.R_new' (Kd.R_new' (Kd.R_new' ho0 (Kd.R_lt (rs HO790))) (Kd.R_lt (rs HO794))) (Kd.R_lt (rs HO797))) (below_size (bs HB))); have n4_ := Aside0.mk (below_step (bs HB) hb); clear HO790; clear HO794; clear HO797; clear HB; have HO790 := n0_; have HO794 := n1_; have HO797 := n2_; have HO802 := n3_; have HB := n4_; clear n0_ n1_ n2_ n3_ n4_; (try clear hb); (try clear hb2); (try clear hk); (try clear hi); (try clear ho0); obtain ⟨Ao178, co178, eo178⟩ := Kd.R_slice HO802.out; subst eo178) | ((with_reducible refine gate_callee (f := 22) rfl ?_); refine goesM_ (some 299) rfl rfl Try.func22 #[.int .i64 t799, .slice Ao178 t800.length co178] rfl ?_; (with_reducible refine (impl_MonicPoly.calls kj136 t799 _ _ t800 t803 t804 _ ?side1 ?side2 A154.out).mono ?_); (case side1 => exact cs ((Kd.R_reads' HO802.out).2.2)); (case side2 => exact (Kd.R_reads' HO802.out).2.1); rintro e w179 ⟨v805, rfl, ho0, hb⟩; refine ⟨_, rfl, ?_⟩; have n0_ := Aside0.mk (Kd.R_elder' (rs HO790) (Kd.R_base ho0) hb); have n1_ := Aside0.mk (Kd.R_elder' (rs HO794) (Kd.R_base ho0) hb); have n2_ := Aside0.mk (Kd.R_elder' (rs HO797) (Kd.R_base ho0) hb); have n3_ := Aside0.mk (Kd.R_elder' (rs HO802) (Kd.R_base ho0) hb); have n4_ := Aside0.mk (Kd.R_lower (Kd.R_new' (Kd.R_new' (Kd.R_new' (Kd.R_new' ho0 (Kd.R_lt (rs HO790))) (Kd.R_lt (rs HO794))) (Kd.R_lt (rs HO797))) (Kd.R_lt (rs HO802))) (below_size (bs HB))); have n5_ := Aside0.mk (below_step (bs HB) hb); clear HO790; clear HO794; clear HO797; clear HO802; clear HB; have HO790 := n0_; have HO794 := n1_; have HO797 := n2_; have HO802 := n3_; have HO806 := n4_; have HB := n5_; clear n0_ n1_ n2_ n3_ n4_ n5_; (try clear hb); (try clear hb2); (try clear hk); (try clear hi); (try clear ho0)) | ((with_reducible refine gate_callee (f := 23) rfl ?_); refine goesM_ (some 305) rfl rfl Try.func23 #[.int .i64 t799, .slice Ao178 t800.length co178] rfl ?_; (with_reducible refine (spec_MonicPoly.calls kj136 t799 (fun k_ => some k_ = (.slice Ao178 t800.length co178 : Value).ownBlock) _ _ t800 t807 t810 _ ?side1 A155.out).mono ?_); (case side1 => exact Kd.R_V (Kd.R_tight rfl (HO802.out))); rintro e w180 ⟨v808, rfl, ho0, hb⟩; refine ⟨_, rfl, ?_⟩; have n0_ := Aside0.mk (Kd.R_elder' (rs HO790) (Kd.R_base ho0) hb); have n1_ := Aside0.mk (Kd.R_elder' (rs HO794) (Kd.R_base ho0) hb); have n2_ := Aside0.mk (Kd.R_elder' (rs HO797) (Kd.R_base ho0) hb); have n3_ := Aside0.mk (Kd.R_elder' (rs HO802) (Kd.R_base ho0) hb); have n4_ := Aside0.mk (Kd.R_elder' (rs HO806) (Kd.R_base ho0) hb); have n5_ := Aside0.mk (Kd.R_lower (Kd.R_new' (Kd.R_new' (Kd.R_new' (Kd.R_new' (Kd.R_new' (Kd.R_mono (ok' := fun k_ => True) ho0 (fun _ hk_ => trivial)) (Kd.R_lt (rs HO790))) (Kd.R_lt (rs HO794))) (Kd.R_lt (rs HO797))) (Kd.R_lt (rs HO802))) (Kd.R_lt (rs HO806))) (below_size (bs HB))); have n6_ := Aside0.mk (below_step (bs HB) hb); clear HO790; clear HO794; clear HO797; clear HO802; clear HO806; clear HB; have HO790 := n0_; have HO794 := n1_; have HO797 := n2_; have HO802 := n3_; have HO806 := n4_; have HO809 := n5_; have HB := n6_; clear n0_ n1_ n2_ n3_ n4_ n5_ n6_; (try clear hb); (try clear hb2); (try clear hk); (try clear hi); (try clear ho0)) | ((with_reducible refine gate_callee (f := 24) rfl ?_); refine goesM_ (some 310) rfl rfl Try.func24 #[.slice A0 l0.length c0] rfl ?_; (with_reducible refine (spec_DrawAddPolys.calls kj136 _ _ l0 t811 t812 t813 t814 _ ?side1 ?side2 A156.out).mono ?_); (case side1 => exact cs ((Kd.C_below HR0.out HB.out))); (case side2 => exact HC0.out); rintro e w181 ⟨v815, v817, rfl, ho0, ho1, hb⟩; refine ⟨_, rfl, ?_⟩; have n0_ := Aside0.mk (Kd.R_mono (Kd.R_told (Kd.R_told (Kd.R_old (rs HO790) hb) (Kd.R_base ho0)) (Kd.R_base ho1)) (fun _ h_ => h_.1)); have n1_ := Aside0.mk (Kd.R_mono (Kd.R_told (Kd.R_told (Kd.R_old (rs HO794) hb) (Kd.R_base ho0)) (Kd.R_base ho1)) (fun _ h_ => h_.1)); have n2_ := Aside0.mk (Kd.R_mono (Kd.R_told (Kd.R_told (Kd.R_old (rs HO797) hb) (Kd.R_base ho0)) (Kd.R_base ho1)) (fun _ h_ => h_.1)); have n3_ := Aside0.mk (Kd.R_mono (Kd.R_told (Kd.R_told (Kd.R_old (rs HO802) hb) (Kd.R_base ho0)) (Kd.R_base ho1)) (fun _ h_ => h_.1)); have n4_ := Aside0.mk (Kd.R_mono (Kd.R_told (Kd.R_told (Kd.R_old (rs HO806) hb) (Kd.R_base ho0)) (Kd.R_base ho1)) (fun _ h_ => h_.1)); have n5_ := Aside0.mk (Kd.R_mono (Kd.R_told (Kd.R_told (Kd.R_old (rs HO809) hb) (Kd.R_base ho0)) (Kd.R_base ho1)) (fun _ h_ => h_.1)); have n6_ := Aside0.mk (Kd.R_lower (Kd.R_new' (Kd.R_new' (Kd.R_new' (Kd.R_new' (Kd.R_new' (Kd.R_new' ho0 (Kd.R_lt (rs HO790))) (Kd.R_lt (rs HO794))) (Kd.R_lt (rs HO797))) (Kd.R_lt (rs HO802))) (Kd.R_lt (rs HO806))) (Kd.R_lt (rs HO809))) (below_size (bs HB))); have n7_ := Aside0.mk (Kd.R_lower (Kd.R_new' (Kd.R_new' (Kd.R_new' (Kd.R_new' (Kd.R_new' (Kd.R_new' ho1 (Kd.R_lt (rs HO790))) (Kd.R_lt (rs HO794))) (Kd.R_lt (rs HO797))) (Kd.R_lt (rs HO802))) (Kd.R_lt (rs HO806))) (Kd.R_lt (rs HO809))) (below_size (bs HB))); have n8_ := Aside0.mk (below_step (bs HB) hb); clear HO790; clear HO794; clear HO797; clear HO802; clear HO806; clear HO809; clear HB; have HO790 := n0_; have HO794 := n1_; have HO797 := n2_; have HO802 := n3_; have HO806 := n4_; have HO809 := n5_; have HO816 := n6_; have HO818 := n7_; have HB := n8_; clear n0_ n1_ n2_ n3_ n4_ n5_ n6_ n7_ n8_; (try clear hb); (try clear hb2); (try clear hk); (try clear hi); (try clear ho0); (try clear ho1); obtain ⟨Ao182, co182, eo182⟩ := Kd.R_slice HO816.out; subst eo182; obtain ⟨Ao183, co183, eo183⟩ := Kd.R_slice HO818.out; subst eo183) | ((with_reducible refine gate_callee (f := 12) rfl ?_); refine goesM_ (some 320) rfl rfl Try.func12 #[.int .i64 t811, .slice Ao182 t812.length co182, .slice Ao183 t813.length co183, .int .i64 t814] rfl ?_; (with_reducible refine (impl_AddPolys.calls kj136 t811 _ _ t812 _ _ t813 t814 t819 t820 _ ?side1 ?side2 ?side3 ?side4 A157.out).mono ?_); (case side1 => exact cs ((Kd.R_reads' HO816.out).2.2)); (case side2 => exact (Kd.R_reads' HO816.out).2.1); (case side3 => exact cs ((Kd.R_reads' HO818.out).2.2)); (case side4 => exact (Kd.R_reads' HO818.out).2.1); rintro e w184 ⟨v821, rfl, ho0, hb⟩; refine ⟨_, rfl, ?_⟩; have n0_ := Aside0.mk (Kd.R_elder' (rs HO790) (Kd.R_base ho0) hb); have n1_ := Aside0.mk (Kd.R_elder' (rs HO794) (Kd.R_base ho0) hb); have n2_ := Aside0.mk (Kd.R_elder' (rs HO797) (Kd.R_base ho0) hb); have n3_ := Aside0.mk (Kd.R_elder' (rs HO802) (Kd.R_base ho0) hb); have n4_ := Aside0.mk (Kd.R_elder' (rs HO806) (Kd.R_base ho0) hb); have n5_ := Aside0.mk (Kd.R_elder' (rs HO809) (Kd.R_base ho0) hb); have n6_ := Aside0.mk (Kd.R_elder' (rs HO816) (Kd.R_base ho0) hb); have n7_ := Aside0.mk (Kd.R_elder' (rs HO818) (Kd.R_base ho0) hb); have n8_ := Aside0.mk (Kd.R_lower (Kd.R_new' (Kd.R_new' (Kd.R_new' (Kd.R_new' (Kd.R_new' (Kd.R_new' (Kd.R_new' (Kd.R_new' ho0 (Kd.R_lt (rs HO790))) (Kd.R_lt (rs HO794))) (Kd.R_lt (rs HO797))) (Kd.R_lt (rs HO802))) (Kd.R_lt (rs HO806))) (Kd.R_lt (rs HO809))) (Kd.R_lt (rs HO816))) (Kd.R_lt (rs HO818))) (below_size (bs HB))); have n9_ := Aside0.mk (below_step (bs HB) hb); clear HO790; clear HO794; clear HO797; clear HO802; clear HO806; clear HO809; clear HO816; clear HO818; clear HB; have HO790 := n0_; have HO794 := n1_; have HO797 := n2_; have HO802 := n3_; have HO806 := n4_; have HO809 := n5_; have HO816 := n6_; have HO818 := n7_; have HO822 := n8_; have HB := n9_; clear n0_ n1_ n2_ n3_ n4_ n5_ n6_ n7_ n8_ n9_; (try clear hb); (try clear hb2); (try clear hk); (try clear hi); (try clear ho0)) | ((with_reducible refine gate_callee (f := 25) rfl ?_); refine goesM_ (some 328) rfl rfl Try.func25 #[.int .i64 t811, .slice Ao182 t812.length co182, .slice Ao183 t813.length co183, .int .i64 t814] rfl ?_; (with_reducible refine (spec_AddPolys.calls kj136 t811 (fun k_ => some k_ = (.slice Ao182 t812.length co182 : Value).ownBlock) _ _ t812 (fun k_ => some k_ = (.slice Ao183 t813.length co183 : Value).ownBlock) _ _ t813 t814 t823 t826 _ ?side1 ?side2 A158.out).mono ?_); (case side1 => exact Kd.R_V (Kd.R_tight rfl (HO816.out))); (case side2 => exact Kd.R_V (Kd.R_tight rfl (HO818.out))); rintro e w185 ⟨v824, rfl, ho0, hb⟩; refine ⟨_, rfl, ?_⟩; have n0_ := Aside0.mk (Kd.R_elder' (rs HO790) (Kd.R_base ho0) hb); have n1_ := Aside0.mk (Kd.R_elder' (rs HO794) (Kd.R_base ho0) hb); have n2_ := Aside0.mk (Kd.R_elder' (rs HO797) (Kd.R_base ho0) hb); have n3_ := Aside0.mk (Kd.R_elder' (rs HO802) (Kd.R_base ho0) hb); have n4_ := Aside0.mk (Kd.R_elder' (rs HO806) (Kd.R_base ho0) hb); have n5_ := Aside0.mk (Kd.R_elder' (rs HO809) (Kd.R_base ho0) hb); have n6_ := Aside0.mk (Kd.R_elder' (rs HO816) (Kd.R_base ho0) hb); have n7_ := Aside0.mk (Kd.R_elder' (rs HO818) (Kd.R_base ho0) hb); have n8_ := Aside0.mk (Kd.R_elder' (rs HO822) (Kd.R_base ho0) hb); have n9_ := Aside0.mk (Kd.R_lower (Kd.R_new' (Kd.R_new' (Kd.R_new' (Kd.R_new' (Kd.R_new' (Kd.R_new' (Kd.R_new' (Kd.R_new' (Kd.R_new' (Kd.R_mono (ok' := fun k_ => True) ho0 (fun _ hk_ => trivial)) (Kd.R_lt (rs HO790))) (Kd.R_lt (rs HO794))) (Kd.R_lt (rs HO797))) (Kd.R_lt (rs HO802))) (Kd.R_lt (rs HO806))) (Kd.R_lt (rs HO809))) (Kd.R_lt (rs HO816))) (Kd.R_lt (rs HO818))) (Kd.R_lt (rs HO822))) (below_size (bs HB))); have n10_ := Aside0.mk (below_step (bs HB) hb); clear HO790; clear HO794; clear HO797; clear HO802; clear HO806; clear HO809; clear HO816; clear HO818; clear HO822; clear HB; have HO790 := n0_; have HO794 := n1_; have HO797 := n2_; have HO802 := n3_; have HO806 := n4_; have HO809 := n5_; have HO816 := n6_; have HO818 := n7_; have HO822 := n8_; have HO825 := n9_; have HB := n10_; clear n0_ n1_ n2_ n3_ n4_ n5_ n6_ n7_ n8_ n9_ n10_; (try clear hb); (try clear hb2); (try clear hk); (try clear hi); (try clear ho0)) | ((with_reducible refine gate_callee (f := 26) rfl ?_); refine goesM_ (some 333) rfl rfl Try.func26 #[.slice A0 l0.length c0] rfl ?_; (with_reducible refine (spec_DrawDerivativeOf.calls kj136 _ _ l0 t827 t828 _ ?side1 ?side2 A159.out).mono ?_); (case side1 => exact cs ((Kd.C_below HR0.out HB.out))); (case side2 => exact HC0.out); rintro e w186 ⟨v829, rfl, ho0, hb⟩; refine ⟨_, rfl, ?_⟩; have n0_ := Aside0.mk (Kd.R_elder' (rs HO790) (Kd.R_base ho0) hb); have n1_ := Aside0.mk (Kd.R_elder' (rs HO794) (Kd.R_base ho0) hb); have n2_ := Aside0.mk (Kd.R_elder' (rs HO797) (Kd.R_base ho0) hb); have n3_ := Aside0.mk (Kd.R_elder' (rs HO802) (Kd.R_base ho0) hb); have n4_ := Aside0.mk (Kd.R_elder' (rs HO806) (Kd.R_base ho0) hb); have n5_ := Aside0.mk (Kd.R_elder' (rs HO809) (Kd.R_base ho0) hb); have n6_ := Aside0.mk (Kd.R_elder' (rs HO816) (Kd.R_base ho0) hb); have n7_ := Aside0.mk (Kd.R_elder' (rs HO818) (Kd.R_base ho0) hb); have n8_ := Aside0.mk (Kd.R_elder' (rs HO822) (Kd.R_base ho0) hb); have n9_ := Aside0.mk (Kd.R_elder' (rs HO825) (Kd.R_base ho0) hb); have n10_ := Aside0.mk (Kd.R_lower (Kd.R_new' (Kd.R_new' (Kd.R_new' (Kd.R_new' (Kd.R_new' (Kd.R_new' (Kd.R_new' (Kd.R_new' (Kd.R_new' (Kd.R_new' ho0 (Kd.R_lt (rs HO790))) (Kd.R_lt (rs HO794))) (Kd.R_lt (rs HO797))) (Kd.R_lt (rs HO802))) (Kd.R_lt (rs HO806))) (Kd.R_lt (rs HO809))) (Kd.R_lt (rs HO816))) (Kd.R_lt (rs HO818))) (Kd.R_lt (rs HO822))) (Kd.R_lt (rs HO825))) (below_size (bs HB))); have n11_ := Aside0.mk (below_step (bs HB) hb); clear HO790; clear HO794; clear HO797; clear HO802; clear HO806; clear HO809; clear HO816; clear HO818; clear HO822; clear HO825; clear HB; have HO790 := n0_; have HO794 := n1_; have HO797 := n2_; have HO802 := n3_; have HO806 := n4_; have HO809 := n5_; have HO816 := n6_; have HO818 := n7_; have HO822 := n8_; have HO825 := n9_; have HO830 := n10_; have HB := n11_; clear n0_ n1_ n2_ n3_ n4_ n5_ n6_ n7_ n8_ n9_ n10_ n11_; (try clear hb); (try clear hb2); (try clear hk); (try clear hi); (try clear ho0); obtain ⟨Ao187, co187, eo187⟩ := Kd.R_slice HO830.out; subst eo187) | ((with_reducible refine gate_callee (f := 27) rfl ?_); refine goesM_ (some 339) rfl rfl Try.func27 #[.int .i64 t827, .slice Ao187 t828.length co187] rfl ?_; (with_reducible refine (impl_DerivativeOf.calls kj136 t827 _ _ t828 t831 t832 _ ?side1 ?side2 A160.out).mono ?_); (case side1 => exact cs ((Kd.R_reads' HO830.out).2.2)); (case side2 => exact (Kd.R_reads' HO830.out).2.1); rintro e w188 ⟨v833, rfl, ho0, hb⟩; refine ⟨_, rfl, ?_⟩; have n0_ := Aside0.mk (Kd.R_elder' (rs HO790) (Kd.R_base ho0) hb); have n1_ := Aside0.mk (Kd.R_elder' (rs HO794) (Kd.R_base ho0) hb); have n2_ := Aside0.mk (Kd.R_elder' (rs HO797) (Kd.R_base ho0) hb); have n3_ := Aside0.mk (Kd.R_elder' (rs HO802) (Kd.R_base ho0) hb); have n4_ := Aside0.mk (Kd.R_elder' (rs HO806) (Kd.R_base ho0) hb); have n5_ := Aside0.mk (Kd.R_elder' (rs HO809) (Kd.R_base ho0) hb); have n6_ := Aside0.mk (Kd.R_elder' (rs HO816) (Kd.R_base ho0) hb); have n7_ := Aside0.mk (Kd.R_elder' (rs HO818) (Kd.R_base ho0) hb); have n8_ := Aside0.mk (Kd.R_elder' (rs HO822) (Kd.R_base ho0) hb); have n9_ := Aside0.mk (Kd.R_elder' (rs HO825) (Kd.R_base ho0) hb); have n10_ := Aside0.mk (Kd.R_elder' (rs HO830) (Kd.R_base ho0) hb); have n11_ := Aside0.mk (Kd.R_lower (Kd.R_new' (Kd.R_new' (Kd.R_new' (Kd.R_new' (Kd.R_new' (Kd.R_new' (Kd.R_new' (Kd.R_new' (Kd.R_new' (Kd.R_new' (Kd.R_new' ho0 (Kd.R_lt (rs HO790))) (Kd.R_lt (rs HO794))) (Kd.R_lt (rs HO797))) (Kd.R_lt (rs HO802))) (Kd.R_lt (rs HO806))) (Kd.R_lt (rs HO809))) (Kd.R_lt (rs HO816))) (Kd.R_lt (rs HO818))) (Kd.R_lt (rs HO822))) (Kd.R_lt (rs HO825))) (Kd.R_lt (rs HO830))) (below_size (bs HB))); have n12_ := Aside0.mk (below_step (bs HB) hb); clear HO790; clear HO794; clear HO797; clear HO802; clear HO806; clear HO809; clear HO816; clear HO818; clear HO822; clear HO825; clear HO830; clear HB; have HO790 := n0_; have HO794 := n1_; have HO797 := n2_; have HO802 := n3_; have HO806 := n4_; have HO809 := n5_; have HO816 := n6_; have HO818 := n7_; have HO822 := n8_; have HO825 := n9_; have HO830 := n10_; have HO834 := n11_; have HB := n12_; clear n0_ n1_ n2_ n3_ n4_ n5_ n6_ n7_ n8_ n9_ n10_ n11_ n12_; (try clear hb); (try clear hb2); (try clear hk); (try clear hi); (try clear ho0)) | ((with_reducible refine gate_callee (f := 28) rfl ?_); refine goesM_ (some 345) rfl rfl Try.func28 #[.int .i64 t827, .slice Ao187 t828.length co187] rfl ?_; (with_reducible refine (spec_DerivativeOf.calls kj136 t827 (fun k_ => some k_ = (.slice Ao187 t828.length co187 : Value).ownBlock) _ _ t828 t835 t838 _ ?side1 A161.out).mono ?_); (case side1 => exact Kd.R_V (Kd.R_tight rfl (HO830.out))); rintro e w189 ⟨v836, rfl, ho0, hb⟩; refine ⟨_, rfl, ?_⟩; have n0_ := Aside0.mk (Kd.R_elder' (rs HO790) (Kd.R_base ho0) hb); have n1_ := Aside0.mk (Kd.R_elder' (rs HO794) (Kd.R_base ho0) hb); have n2_ := Aside0.mk (Kd.R_elder' (rs HO797) (Kd.R_base ho0) hb); have n3_ := Aside0.mk (Kd.R_elder' (rs HO802) (Kd.R_base ho0) hb); have n4_ := Aside0.mk (Kd.R_elder' (rs HO806) (Kd.R_base ho0) hb); have n5_ := Aside0.mk (Kd.R_elder' (rs HO809) (Kd.R_base ho0) hb); have n6_ := Aside0.mk (Kd.R_elder' (rs HO816) (Kd.R_base ho0) hb); have n7_ := Aside0.mk (Kd.R_elder' (rs HO818) (Kd.R_base ho0) hb); have n8_ := Aside0.mk (Kd.R_elder' (rs HO822) (Kd.R_base ho0) hb); have n9_ := Aside0.mk (Kd.R_elder' (rs HO825) (Kd.R_base ho0) hb); have n10_ := Aside0.mk (Kd.R_elder' (rs HO830) (Kd.R_base ho0) hb); have n11_ := Aside0.mk (Kd.R_elder' (rs HO834) (Kd.R_base ho0) hb); have n12_ := Aside0.mk (Kd.R_lower (Kd.R_new' (Kd.R_new' (Kd.R_new' (Kd.R_new' (Kd.R_new' (Kd.R_new' (Kd.R_new' (Kd.R_new' (Kd.R_new' (Kd.R_new' (Kd.R_new' (Kd.R_new' (Kd.R_mono (ok' := fun k_ => True) ho0 (fun _ hk_ => trivial)) (Kd.R_lt (rs HO790))) (Kd.R_lt (rs HO794))) (Kd.R_lt (rs HO797))) (Kd.R_lt (rs HO802))) (Kd.R_lt (rs HO806))) (Kd.R_lt (rs HO809))) (Kd.R_lt (rs HO816))) (Kd.R_lt (rs HO818))) (Kd.R_lt (rs HO822))) (Kd.R_lt (rs HO825))) (Kd.R_lt (rs HO830))) (Kd.R_lt (rs HO834))) (below_size (bs HB))); have n13_ := Aside0.mk (below_step (bs HB) hb); clear HO790; clear HO794; clear HO797; clear HO802; clear HO806; clear HO809; clear HO816; clear HO818; clear HO822; clear HO825; clear HO830; clear HO834; clear HB; have HO790 := n0_; have HO794 := n1_; have HO797 := n2_; have HO802 := n3_; have HO806 := n4_; have HO809 := n5_; have HO816 := n6_; have HO818 := n7_; have HO822 := n8_; have HO825 := n9_; have HO830 := n10_; have HO834 := n11_; have HO837 := n12_; have HB := n13_; clear n0_ n1_ n2_ n3_ n4_ n5_ n6_ n7_ n8_ n9_ n10_ n11_ n12_ n13_; (try clear hb); (try clear hb2); (try clear hk); (try clear hi); (try clear ho0); obtain ⟨Ao190, co190, eo190⟩ := Kd.R_slice HO794.out; subst eo190; obtain ⟨Ao191, co191, eo191⟩ := Kd.R_slice HO797.out; subst eo191))
                   by_cases c162 : t792 = t798
                   rw [if_pos c162] at H
                   have c162b0 : (t792 == t798) = true := beq_iff_eq.mpr c162
                   have c162b1 : (t792 != t798) = false := bne_eq_false_iff_eq.mpr c162
                   clear c162
                   replace H := Option.bind_eq_some_iff.mp H
                   obtain ⟨t839, A1630, H⟩ := H
                   have A163 := Aside0.mk A1630
                   clear A1630
                   by_cases c164 : t839 = true
                   subst c164
                   have H1 : (if t804 = t810 then ((laws_likeInts.f kj136 t803 t807).bind fun t840 => (if t840 = true then (if t820 = t826 then ((laws_likeInts.f kj136 t819 t823).bind fun t841 => (if t841 = true then (if t832 = t838 then ((laws_likeInts.f kj136 t831 t835).bind fun t842 => (some t842)) else (some false)) else (some false))) else (some false)) else (some false))) else (some false)) = some r := by rw [if_pos rfl] at H; exact H
                   clear H
                   have H := H1
                   clear H1
                   by_cases c165 : t804 = t810
                   rw [if_pos c165] at H
                   have c165b0 : (t804 == t810) = true := beq_iff_eq.mpr c165
                   have c165b1 : (t804 != t810) = false := bne_eq_false_iff_eq.mpr c165
                   clear c165
                   replace H := Option.bind_eq_some_iff.mp H
                   obtain ⟨t840, A1660, H⟩ := H
                   have A166 := Aside0.mk A1660
                   clear A1660
                   by_cases c167 : t840 = true
                   subst c167
                   have H1 : (if t820 = t826 then ((laws_likeInts.f kj136 t819 t823).bind fun t841 => (if t841 = true then (if t832 = t838 then ((laws_likeInts.f kj136 t831 t835).bind fun t842 => (some t842)) else (some false)) else (some false))) else (some false)) = some r := by rw [if_pos rfl] at H; exact H
                   clear H
                   have H := H1
                   clear H1
                   by_cases c168 : t820 = t826
                   rw [if_pos c168] at H
                   have c168b0 : (t820 == t826) = true := beq_iff_eq.mpr c168
                   have c168b1 : (t820 != t826) = false := bne_eq_false_iff_eq.mpr c168
                   clear c168
                   replace H := Option.bind_eq_some_iff.mp H
                   obtain ⟨t841, A1690, H⟩ := H
                   have A169 := Aside0.mk A1690
                   clear A1690
                   by_cases c170 : t841 = true
                   subst c170
                   have H1 : (if t832 = t838 then ((laws_likeInts.f kj136 t831 t835).bind fun t842 => (some t842)) else (some false)) = some r := by rw [if_pos rfl] at H; exact H
                   clear H
                   have H := H1
                   clear H1
                   by_cases c171 : t832 = t838
                   rw [if_pos c171] at H
                   have c171b0 : (t832 == t838) = true := beq_iff_eq.mpr c171
                   have c171b1 : (t832 != t838) = false := bne_eq_false_iff_eq.mpr c171
                   clear c171
                   replace H := Option.bind_eq_some_iff.mp H
                   obtain ⟨t842, A1720, H⟩ := H
                   have A172 := Aside0.mk A1720
                   clear A1720
                   obtain rfl := Option.some.inj H
                   rotate_left 1
                   rw [if_neg c171] at H
                   have c171b0 : (t832 == t838) = false := beq_eq_false_iff_ne.mpr c171
                   have c171b1 : (t832 != t838) = true := bne_iff_ne.mpr c171
                   obtain rfl := Option.some.inj H
                   rotate_left 1
                   replace c170 := Bool.eq_false_iff.mpr c170
                   subst c170
                   have H1 : (some false) = some r := by rw [if_neg (show ¬ (false = true) by decide)] at H; exact H
                   clear H
                   have H := H1
                   clear H1
                   obtain rfl := Option.some.inj H
                   rotate_left 1
                   rw [if_neg c168] at H
                   have c168b0 : (t820 == t826) = false := beq_eq_false_iff_ne.mpr c168
                   have c168b1 : (t820 != t826) = true := bne_iff_ne.mpr c168
                   obtain rfl := Option.some.inj H
                   rotate_left 1
                   replace c167 := Bool.eq_false_iff.mpr c167
                   subst c167
                   have H1 : (some false) = some r := by rw [if_neg (show ¬ (false = true) by decide)] at H; exact H
                   clear H
                   have H := H1
                   clear H1
                   obtain rfl := Option.some.inj H
                   rotate_left 1
                   rw [if_neg c165] at H
                   have c165b0 : (t804 == t810) = false := beq_eq_false_iff_ne.mpr c165
                   have c165b1 : (t804 != t810) = true := bne_iff_ne.mpr c165
                   obtain rfl := Option.some.inj H
                   rotate_left 1
                   replace c164 := Bool.eq_false_iff.mpr c164
                   subst c164
                   have H1 : (some false) = some r := by rw [if_neg (show ¬ (false = true) by decide)] at H; exact H
                   clear H
                   have H := H1
                   clear H1
                   obtain rfl := Option.some.inj H
                   rotate_left 1
                   rw [if_neg c162] at H
                   have c162b0 : (t792 == t798) = false := beq_eq_false_iff_ne.mpr c162
                   have c162b1 : (t792 != t798) = true := bne_iff_ne.mpr c162
                   obtain rfl := Option.some.inj H
                   iterate 8 (go_wp2_with (first | (go_at_call 8; (with_reducible refine (laws_likeInts.calls kj136 _ _ t791 _ _ t795 _ _ ?side1 ?side2 ?side3 ?side4 A163.out).mono ?_); (case side1 => exact cs ((Kd.R_reads' HO794.out).2.2)); (case side2 => exact (Kd.R_reads' HO794.out).2.1); (case side3 => exact cs ((Kd.R_reads' HO797.out).2.2)); (case side4 => exact (Kd.R_reads' HO797.out).2.1); rintro e w' ⟨rfl, ⟨nd, rfl⟩⟩; obtain ⟨Ao192, co192, eo192⟩ := Kd.R_slice HO806.out; subst eo192; obtain ⟨Ao193, co193, eo193⟩ := Kd.R_slice HO809.out; subst eo193) | (go_at_call 8; (with_reducible refine (laws_likeInts.calls kj136 _ _ t803 _ _ t807 _ _ ?side1 ?side2 ?side3 ?side4 A166.out).mono ?_); (case side1 => exact cs ((Kd.R_reads' HO806.out).2.2)); (case side2 => exact (Kd.R_reads' HO806.out).2.1); (case side3 => exact cs ((Kd.R_reads' HO809.out).2.2)); (case side4 => exact (Kd.R_reads' HO809.out).2.1); rintro e w' ⟨rfl, ⟨nd, rfl⟩⟩; obtain ⟨Ao194, co194, eo194⟩ := Kd.R_slice HO822.out; subst eo194; obtain ⟨Ao195, co195, eo195⟩ := Kd.R_slice HO825.out; subst eo195) | (go_at_call 8; (with_reducible refine (laws_likeInts.calls kj136 _ _ t819 _ _ t823 _ _ ?side1 ?side2 ?side3 ?side4 A169.out).mono ?_); (case side1 => exact cs ((Kd.R_reads' HO822.out).2.2)); (case side2 => exact (Kd.R_reads' HO822.out).2.1); (case side3 => exact cs ((Kd.R_reads' HO825.out).2.2)); (case side4 => exact (Kd.R_reads' HO825.out).2.1); rintro e w' ⟨rfl, ⟨nd, rfl⟩⟩; obtain ⟨Ao196, co196, eo196⟩ := Kd.R_slice HO834.out; subst eo196; obtain ⟨Ao197, co197, eo197⟩ := Kd.R_slice HO837.out; subst eo197) | (go_at_call 8; (with_reducible refine (laws_likeInts.calls kj136 _ _ t831 _ _ t835 _ _ ?side1 ?side2 ?side3 ?side4 A172.out).mono ?_); (case side1 => exact cs ((Kd.R_reads' HO834.out).2.2)); (case side2 => exact (Kd.R_reads' HO834.out).2.1); (case side3 => exact cs ((Kd.R_reads' HO837.out).2.2)); (case side4 => exact (Kd.R_reads' HO837.out).2.1); rintro e w' ⟨rfl, ⟨nd, rfl⟩⟩)); go_ret; exact ⟨by first | rfl | (simp [errW_none, errW_some] <;> rfl) | (simp [*, errW_none, errW_some] <;> rfl), by repeat (first | (with_reducible first | exact HB.out | apply below_alloc | apply pw_below_drewN | apply below_drew1) | exact HB.out)⟩)
/-- THE ONE PURE STATEMENT of laws_FnPolynomials: yours. -/
def laws_FnPolynomials.Pure : Prop := ∀ (l0 : List Int), l0.length ≤ maxLen → l0.length * 1 ≤ 140737488351232 → (∀ x ∈ l0, (Lit.int .u8 x).wf = true) → ∃ k, laws_FnPolynomials.f k l0 = some true
theorem laws_FnPolynomials.walk (P : laws_FnPolynomials.Pure) (a0 : Option Addr) (len0 cap0 : Nat) (z0 : List Int) (w : World) (w0 : (a0 = none ∧ len0 = 0 ∧ cap0 = 0 ∧ z0 = []) ∨ ∃ x, a0 = some x ∧ len0 ≤ cap0 ∧ cap0 ≤ maxLen ∧ z0.length = cap0 ∧ (∀ i, i < z0.length → w.cell? (x.add i) = some (.int .u8 (z0.getD i 0))) ∧ ∀ n ∈ z0, (Lit.int .u8 n).wf = true) (y0 : len0 * 1 ≤ 140737488351232) :
  Calls Try.prog 3 #[.slice a0 len0 cap0] w fun e w' => e = .returned (.bool true) ∧ Below w.heap.size w w' := by
 obtain ⟨l0, rfl, hr0, hm0, hw0, hc0⟩ := ReadsInt.ofRowC w0
 obtain ⟨k, h⟩ := P l0 hm0 y0 hw0
 refine (laws_FnPolynomials.calls k _ _ l0 true w (Kd.C_of_reads (d := (0 : Int)) (h1 := fun _ => rfl) hr0) hc0 h).mono ?_
 rintro e w' ⟨rfl, hd⟩
 exact ⟨rfl, hd⟩
end Go.Proofs.Ytjbajagjknhpoaa.H
