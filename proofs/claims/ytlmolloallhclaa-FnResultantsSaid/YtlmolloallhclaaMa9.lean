/- Joined texts of a claim: the printed functions and what is proved of them. -/
import Derived.Test.YtlmolloallhclaaYHx0
import Derived.Test.YtlmolloallhclaaMa2
import Derived.Test.YtlmolloallhclaaMa5
import Derived.Test.YtlmolloallhclaaMa6
import Derived.Test.YtlmolloallhclaaMa7
import Derived.Test.YtlmolloallhclaaMa8
namespace Go.Proofs.Ytlmolloallhclaa.H
open Go.RowKit Go.Proofs.YtlmolloallhclaaW.PrintWords Go.Proofs.YtlmolloallhclaaW.PrintLast Go.Proofs.YtlmolloallhclaaW.PrintMore
attribute [local go_sem] max2_int min2_int max_two min_two max_three min_three max_four min_four   -- for this text's walks alone
set_option linter.unusedVariables false
set_option linter.unusedSimpArgs false
noncomputable section
mutual
def laws_FnResultants.j0 : Nat → List Int → Int → List Int → List Int → Int → Int → Bool → Option (Bool)
 | 0, _, _, _, _, _, _, _ => none
 | k + 1, x0, x3, x4, x5, x6, x7, x69 => if x69 = true then (some false) else ((spec_DrawDiscriminantOf.f k x0).bind fun bt820 => ((impl_DiscriminantOf.f k bt820.1 bt820.2).bind fun bt824 => ((spec_DiscriminantOf.f k bt820.1 bt820.2).bind fun bt826 => (if bt824.2 = bt826.2 then (laws_FnResultants.j1 k x0 x3 x4 x5 x6 x7 bt820.1 bt820.2 bt824.1 bt824.2 (bt824.1 != bt826.1)) else (laws_FnResultants.j1 k x0 x3 x4 x5 x6 x7 bt820.1 bt820.2 bt824.1 bt824.2 true)))))
def laws_FnResultants.j1 : Nat → List Int → Int → List Int → List Int → Int → Int → Int → List Int → Int → Int → Bool → Option (Bool)
 | 0, _, _, _, _, _, _, _, _, _, _, _ => none
 | k + 1, x0, x3, x4, x5, x6, x7, x10, x11, x12, x13, x94 => if x94 = true then (some false) else ((impl_IsSimplePolynomial.f k x10 x11).bind fun bt828 => ((spec_IsSimplePolynomial.f k x10 x11).bind fun bt830 => (if bt828.2 = bt830.2 then (laws_FnResultants.j2 k x0 x3 x4 x5 x6 x7 x10 x11 x12 x13 bt828.1 bt828.2 (bt828.1 != bt830.1)) else (laws_FnResultants.j2 k x0 x3 x4 x5 x6 x7 x10 x11 x12 x13 bt828.1 bt828.2 true))))
def laws_FnResultants.j2 : Nat → List Int → Int → List Int → List Int → Int → Int → Int → List Int → Int → Int → Bool → Int → Bool → Option (Bool)
 | 0, _, _, _, _, _, _, _, _, _, _, _, _, _ => none
 | k + 1, x0, x3, x4, x5, x6, x7, x10, x11, x12, x13, x16, x17, x114 => if x114 = true then (some false) else ((impl_SimplePart.f k x10 x11).bind fun bt832 => ((spec_SimplePart.f k x10 x11).bind fun bt836 => (if bt832.2 = bt836.2 then ((laws_likeInts.f k bt832.1 bt836.1).bind fun t840 => (laws_FnResultants.j3 k x0 x3 x4 x5 x6 x7 x11 x12 x13 x16 x17 bt832.1 bt832.2 (!t840))) else (laws_FnResultants.j3 k x0 x3 x4 x5 x6 x7 x11 x12 x13 x16 x17 bt832.1 bt832.2 true))))
def laws_FnResultants.j3 : Nat → List Int → Int → List Int → List Int → Int → Int → List Int → Int → Int → Bool → Int → List Int → Int → Bool → Option (Bool)
 | 0, _, _, _, _, _, _, _, _, _, _, _, _, _, _ => none
 | k + 1, x0, x3, x4, x5, x6, x7, x11, x12, x13, x16, x17, x20, x21, x135 => if x135 = true then (some false) else ((spec_DrawCommonRoots.f k x0).bind fun bt841 => ((impl_CommonRoots.f k bt841.1 bt841.2.1 bt841.2.2).bind fun bt848 => ((spec_CommonRoots.f k bt841.1 bt841.2.1 bt841.2.2).bind fun bt852 => (if bt848.2 = bt852.2 then ((laws_likeInts.f k bt848.1 bt852.1).bind fun t856 => (laws_FnResultants.j4 k x3 x4 x5 x6 x7 x11 x12 x13 x16 x17 x20 x21 bt841.1 bt841.2.1 bt841.2.2 bt848.1 bt848.2 (!t856))) else (laws_FnResultants.j4 k x3 x4 x5 x6 x7 x11 x12 x13 x16 x17 x20 x21 bt841.1 bt841.2.1 bt841.2.2 bt848.1 bt848.2 true)))))
def laws_FnResultants.j4 : Nat → Int → List Int → List Int → Int → Int → List Int → Int → Int → Bool → Int → List Int → Int → Int → List Int → List Int → List Int → Int → Bool → Option (Bool)
 | 0, _, _, _, _, _, _, _, _, _, _, _, _, _, _, _, _, _, _ => none
 | k + 1, x3, x4, x5, x6, x7, x11, x12, x13, x16, x17, x20, x21, x24, x25, x26, x27, x28, x164 => if x164 = true then (some false) else (if x13 = 0 then (if x17 = 0 then (laws_FnResultants.j5 k x3 x4 x5 x6 x7 x11 x16 x20 x21 x24 x25 x26 x27 x28 (x16 != (x12 != 0))) else (laws_FnResultants.j5 k x3 x4 x5 x6 x7 x11 x16 x20 x21 x24 x25 x26 x27 x28 true)) else (laws_FnResultants.j5 k x3 x4 x5 x6 x7 x11 x16 x20 x21 x24 x25 x26 x27 x28 false))
def laws_FnResultants.j5 : Nat → Int → List Int → List Int → Int → Int → List Int → Bool → List Int → Int → Int → List Int → List Int → List Int → Int → Bool → Option (Bool)
 | 0, _, _, _, _, _, _, _, _, _, _, _, _, _, _, _ => none
 | k + 1, x3, x4, x5, x6, x7, x11, x16, x20, x21, x24, x25, x26, x27, x28, x176 => if x176 = true then (some false) else (if x21 = 0 then (if x16 = true then (laws_FnResultants.j6 k x3 x4 x5 x6 x7 x24 x25 x26 x27 x28 ((x20.length : Int) != (x11.length : Int))) else (laws_FnResultants.j6 k x3 x4 x5 x6 x7 x24 x25 x26 x27 x28 false)) else (laws_FnResultants.j6 k x3 x4 x5 x6 x7 x24 x25 x26 x27 x28 false))
def laws_FnResultants.j6 : Nat → Int → List Int → List Int → Int → Int → Int → List Int → List Int → List Int → Int → Bool → Option (Bool)
 | 0, _, _, _, _, _, _, _, _, _, _, _ => none
 | k + 1, x3, x4, x5, x6, x7, x24, x25, x26, x27, x28, x188 => if x188 = true then (some false) else (if x28 = 0 then (laws_FnResultants.l0 k x3 x4 x5 x6 x7 x24 x25 x26 x27 0) else (laws_FnResultants.j8 k x3 x4 x5 x6 x7))
def laws_FnResultants.j8 : Nat → Int → List Int → List Int → Int → Int → Option (Bool)
 | 0, _, _, _, _, _ => none
 | k + 1, x3, x4, x5, x6, x7 => if x7 = 0 then ((impl_GcdPolys.f k x3 x4 x5).bind fun bt863 => ((impl_ResultantOf.f k x3 x5 x4).bind fun bt867 => (if bt863.2 = 0 then (if bt867.2 = 0 then (laws_FnResultants.j9 k x3 x4 x5 x6 bt867.1 ((x6 == 0) != (decide ((bt863.1.length : Int) > 1)))) else (laws_FnResultants.j9 k x3 x4 x5 x6 bt867.1 true)) else (laws_FnResultants.j9 k x3 x4 x5 x6 bt867.1 true)))) else (some (x6 == 0))
def laws_FnResultants.j9 : Nat → Int → List Int → List Int → Int → Int → Bool → Option (Bool)
 | 0, _, _, _, _, _, _ => none
 | k + 1, x3, x4, x5, x6, x38, x262 => if x262 = true then (some false) else (if (Int.tmod (wrap64 ((wrap64 ((x4.length : Int) - 1)) * (wrap64 ((x5.length : Int) - 1)))) 2) = 1 then (if x3 = 0 then (none) else (some ((Int.tmod (wrap64 (x3 - x38)) x3) == x6))) else (some (x38 == x6)))
def laws_FnResultants.l0 : Nat → Int → List Int → List Int → Int → Int → Int → List Int → List Int → List Int → Int → Option (Bool)
 | 0, _, _, _, _, _, _, _, _, _, _ => none
 | k + 1, x3, x4, x5, x6, x7, x24, x25, x26, x27, x31 => if x31 < (x27.length : Int) then (if 0 ≤ x31 then ((impl_ValueAt.f k x24 x25 (rd x27 x31)).bind fun bt858 => ((impl_ValueAt.f k x24 x26 (rd x27 x31)).bind fun bt861 => (if bt858.2 = 0 then (if bt861.2 = 0 then (if bt858.1 = 0 then (if bt861.1 = 0 then (laws_FnResultants.l0 k x3 x4 x5 x6 x7 x24 x25 x26 x27 (wrap64 (x31 + 1))) else (some false)) else (some false)) else (some false)) else (some false)))) else (none)) else (laws_FnResultants.j8 k x3 x4 x5 x6 x7)
end
def laws_FnResultants.f (k : Nat) (l0 : List Int) : Option (Bool) := (laws_big.f l0).bind fun t808 => (if t808 = true then (some true) else ((spec_DrawResultantOf.f k l0).bind fun bt809 => ((impl_ResultantOf.f k bt809.1 bt809.2.1 bt809.2.2).bind fun bt816 => ((spec_ResultantOf.f k bt809.1 bt809.2.1 bt809.2.2).bind fun bt818 => (if bt816.2 = bt818.2 then (laws_FnResultants.j0 k l0 bt809.1 bt809.2.1 bt809.2.2 bt816.1 bt816.2 (bt816.1 != bt818.1)) else (laws_FnResultants.j0 k l0 bt809.1 bt809.2.1 bt809.2.2 bt816.1 bt816.2 true))))))
set_option maxHeartbeats 8000000 in
set_option maxRecDepth 100000 in
theorem laws_FnResultants.calls (k : Nat) (A0 : Option Addr) (c0 : Nat) (l0 : List Int) (r : Bool) (w : World) (hr0 : Kd.C (Kd.int .u8) w A0 l0.length l0) (hc0 : l0.length ≤ c0) (h : laws_FnResultants.f k l0 = some r) :
  Calls Try.prog 8 #[.slice A0 l0.length c0] w fun e w' => e = .returned (.bool r) ∧ Below w.heap.size w w' := by
 have HR0 := as0 hr0
 have HC0 := as0 hc0
 clear hr0 hc0
 have HB := as0 (Below.refl w.heap.size w)
 have H : ((laws_big.f l0).bind fun t808 => (if t808 = true then (some true) else ((spec_DrawResultantOf.f k l0).bind fun bt809 => ((impl_ResultantOf.f k bt809.1 bt809.2.1 bt809.2.2).bind fun bt816 => ((spec_ResultantOf.f k bt809.1 bt809.2.1 bt809.2.2).bind fun bt818 => (if bt816.2 = bt818.2 then (laws_FnResultants.j0 k l0 bt809.1 bt809.2.1 bt809.2.2 bt816.1 bt816.2 (bt816.1 != bt818.1)) else (laws_FnResultants.j0 k l0 bt809.1 bt809.2.1 bt809.2.2 bt816.1 bt816.2 true))))))) = some r := h
 clear h
 replace H := Option.bind_eq_some_iff.mp H
 obtain ⟨t808, A20, H⟩ := H
 have A2 := as0 A20
 clear A20
 by_cases c3 : t808 = true
 ·
  subst c3
  have H1 : (some true) = some r := by rw [if_pos rfl] at H; exact H
  clear H
  have H := H1
  clear H1
  obtain rfl := Option.some.inj H
  go_enter Try.func8, Try.ntmps8
  go_wp2_with (first | ((with_reducible refine gate_callee (f := 28) rfl ?_); refine goesM_ (some 41) rfl rfl Try.func28 #[.slice A0 l0.length c0] rfl ?_; (with_reducible refine (laws_big.calls _ _ l0 true _ ?side1 ?side2 A2.out).mono ?_); (case side1 => exact cs (HR0.out)); (case side2 => exact HC0.out); rintro e w' ⟨rfl, ⟨nd, rfl⟩⟩; refine ⟨_, rfl, ?_⟩))
  go_ret
  exact ⟨er_, bs HB⟩
 ·
  replace c3 := Bool.eq_false_iff.mpr c3
  subst c3
  have H1 : ((spec_DrawResultantOf.f k l0).bind fun bt809 => ((impl_ResultantOf.f k bt809.1 bt809.2.1 bt809.2.2).bind fun bt816 => ((spec_ResultantOf.f k bt809.1 bt809.2.1 bt809.2.2).bind fun bt818 => (if bt816.2 = bt818.2 then (laws_FnResultants.j0 k l0 bt809.1 bt809.2.1 bt809.2.2 bt816.1 bt816.2 (bt816.1 != bt818.1)) else (laws_FnResultants.j0 k l0 bt809.1 bt809.2.1 bt809.2.2 bt816.1 bt816.2 true))))) = some r := by rw [if_neg (show ¬ (false = true) by decide)] at H; exact H
  clear H
  have H := H1
  clear H1
  replace H := Option.bind_eq_some_iff.mp H
  obtain ⟨⟨t809, t810, t811⟩, A40, H⟩ := H
  have A4 := as0 A40
  clear A40
  replace H := Option.bind_eq_some_iff.mp H
  obtain ⟨⟨t816, t817⟩, A50, H⟩ := H
  have A5 := as0 A50
  clear A50
  replace H := Option.bind_eq_some_iff.mp H
  obtain ⟨⟨t818, t819⟩, A60, H⟩ := H
  have A6 := as0 A60
  clear A60
  have HC7 := as0 H
  clear H
  go_enter Try.func8, Try.ntmps8
  go_upto_region 6 with (first | ((with_reducible refine gate_callee (f := 28) rfl ?_); refine goesM_ (some 41) rfl rfl Try.func28 #[.slice A0 l0.length c0] rfl ?_; (with_reducible refine (laws_big.calls _ _ l0 false _ ?side1 ?side2 A2.out).mono ?_); (case side1 => exact cs (HR0.out)); (case side2 => exact HC0.out); rintro e w' ⟨rfl, ⟨nd, rfl⟩⟩; refine ⟨_, rfl, ?_⟩) | ((with_reducible refine gate_callee (f := 29) rfl ?_); refine goesM_ (some 44) rfl rfl Try.func29 #[.slice A0 l0.length c0] rfl ?_; (with_reducible refine (spec_DrawResultantOf.calls k _ _ l0 t809 t810 t811 _ ?side1 ?side2 A4.out).mono ?_); (case side1 => exact cs (HR0.out)); (case side2 => exact HC0.out); rintro e w8 ⟨v812, v814, rfl, ho0, ho1, hb⟩; refine ⟨_, rfl, ?_⟩; have n0_ := as0 (Kd.R_lower ho0 (below_size (bs HB))); have n1_ := as0 (Kd.R_lower ho1 (below_size (bs HB))); have n2_ := as0 (below_step (bs HB) hb); clear HB; have HO813 := n0_; have HO815 := n1_; have HB := n2_; clear n0_ n1_ n2_; (try clear hb); (try clear hb2); (try clear hk); (try clear hi); (try clear ho0); (try clear ho1); obtain ⟨Ao9, co9, eo9⟩ := Kd.R_slice HO813.out; subst eo9; obtain ⟨Ao10, co10, eo10⟩ := Kd.R_slice HO815.out; subst eo10) | ((with_reducible refine gate_callee (f := 22) rfl ?_); refine goesM_ (some 52) rfl rfl Try.func22 #[.int .i64 t809, .slice Ao9 t810.length co9, .slice Ao10 t811.length co10] rfl ?_; (with_reducible refine (impl_ResultantOf.calls k t809 _ _ t810 _ _ t811 t816 t817 _ ?side1 ?side2 ?side3 ?side4 A5.out).mono ?_); (case side1 => exact cs ((Kd.R_reads' HO813.out).2.2)); (case side2 => exact (Kd.R_reads' HO813.out).2.1); (case side3 => exact cs ((Kd.R_reads' HO815.out).2.2)); (case side4 => exact (Kd.R_reads' HO815.out).2.1); rintro e w11 ⟨rfl, hb⟩; refine ⟨_, rfl, ?_⟩; have n0_ := as0 (Kd.R_below (rs HO813) hb); have n1_ := as0 (Kd.R_below (rs HO815) hb); have n2_ := as0 (below_step (bs HB) hb); clear HO813; clear HO815; clear HB; have HO813 := n0_; have HO815 := n1_; have HB := n2_; clear n0_ n1_ n2_; (try clear hb); (try clear hb2); (try clear hk); (try clear hi)) | ((with_reducible refine gate_callee (f := 21) rfl ?_); refine goesM_ (some 59) rfl rfl Try.func21 #[.int .i64 t809, .slice Ao9 t810.length co9, .slice Ao10 t811.length co10] rfl ?_; (with_reducible refine (spec_ResultantOf.calls k t809 (fun k_ => some k_ = (.slice Ao9 t810.length co9 : Value).ownBlock) _ _ t810 (fun k_ => some k_ = (.slice Ao10 t811.length co10 : Value).ownBlock) _ _ t811 t818 t819 _ ?side1 ?side2 A6.out).mono ?_); (case side1 => exact Kd.R_V (Kd.R_tight rfl (HO813.out))); (case side2 => exact Kd.R_V (Kd.R_tight rfl (HO815.out))); rintro e w12 ⟨rfl, hb⟩; refine ⟨_, rfl, ?_⟩; have n0_ := as0 (Kd.R_below (rs HO813) hb); have n1_ := as0 (Kd.R_below (rs HO815) hb); have n2_ := as0 (below_step (bs HB) hb); clear HO813; clear HO815; clear HB; have HO813 := n0_; have HO815 := n1_; have HB := n2_; clear n0_ n1_ n2_; (try clear hb); (try clear hb2); (try clear hk); (try clear hi)))
  (try simp only [Act.put, List.setIfInBounds_toArray, List.set_cons_zero, List.set_cons_succ])
  go_cut [69] from 40 to 61 (fun v69 wc => ∃ (kq : Nat) (x69_6 : Bool), v69 = .bool x69_6 ∧ Aside0 (laws_FnResultants.j0 kq l0 t809 t810 t811 t816 t817 x69_6 = some r) ∧ Aside0 (kq ≤ k) ∧ Aside0 (Kd.R (Kd.int .i64) 2 wc w.heap.size (fun k_ => some k_ ≠ ((.slice Ao10 t811.length co10) : Value).ownBlock) (.slice Ao9 t810.length co9) t810) ∧ Aside0 (Kd.R (Kd.int .i64) 2 wc w.heap.size (fun k_ => some k_ ≠ ((.slice Ao9 t810.length co9) : Value).ownBlock) (.slice Ao10 t811.length co10) t811) ∧ Aside0 (Below w.heap.size w wc))
  case first =>
   have H := HC7.out
   clear HC7
   by_cases c13 : t817 = t819
   ·
    rw [if_pos c13] at H
    have c13b0 : (t817 == t819) = true := beq_iff_eq.mpr c13
    have c13b1 : (t817 != t819) = false := bne_eq_false_iff_eq.mpr c13
    clear c13
    (first | rw [c13b0] | (simp only [i64_w, i32_w]; rw [c13b0]) | skip)
    have H' := as0 H
    clear H
    go_wp2
    go_meet
    case rel => exact ⟨_, ((t816 != t818)), ea_, H', ⟨by first | omega | exact Nat.le_refl _⟩, ⟨rs HO813⟩, ⟨rs HO815⟩, ⟨bs HB⟩⟩
   ·
    rw [if_neg c13] at H
    have c13b0 : (t817 == t819) = false := beq_eq_false_iff_ne.mpr c13
    have c13b1 : (t817 != t819) = true := bne_iff_ne.mpr c13
    (first | rw [c13b0] | (simp only [i64_w, i32_w]; rw [c13b0]) | skip)
    have H' := as0 H
    clear H
    go_wp2
    go_meet
    case rel => exact ⟨_, (true), ea_, H', ⟨by first | omega | exact Nat.le_refl _⟩, ⟨rs HO813⟩, ⟨rs HO815⟩, ⟨bs HB⟩⟩
  case rest => as_aux_lemma =>
   clear HC7
   try clear c1
   try clear c2
   try clear p2
   try clear c3
   try clear c8
   try clear c13
   try clear c13b0
   try clear c13b1
   obtain ⟨kq, x69_6, rfl, HA, HJ6, HO_4, HO_5, HB⟩ := hcut
   cases kq with
   | zero => exact absurd HA.out (by simp [laws_FnResultants.j0])
   | succ kj6 =>
    have H := HA.out
    clear HA
    simp only [laws_FnResultants.j0] at H
    by_cases c14 : x69_6 = true
    ·
     subst c14
     have H1 : (some false) = some r := by rw [if_pos rfl] at H; exact H
     clear H
     have H := H1
     clear H1
     obtain rfl := Option.some.inj H
     go_wp2
     go_ret
     exact ⟨er_, bs HB⟩
    ·
     replace c14 := Bool.eq_false_iff.mpr c14
     subst c14
     have H1 : ((spec_DrawDiscriminantOf.f kj6 l0).bind fun bt820 => ((impl_DiscriminantOf.f kj6 bt820.1 bt820.2).bind fun bt824 => ((spec_DiscriminantOf.f kj6 bt820.1 bt820.2).bind fun bt826 => (if bt824.2 = bt826.2 then (laws_FnResultants.j1 kj6 l0 t809 t810 t811 t816 t817 bt820.1 bt820.2 bt824.1 bt824.2 (bt824.1 != bt826.1)) else (laws_FnResultants.j1 kj6 l0 t809 t810 t811 t816 t817 bt820.1 bt820.2 bt824.1 bt824.2 true))))) = some r := by rw [if_neg (show ¬ (false = true) by decide)] at H; exact H
     clear H
     have H := H1
     clear H1
     replace H := Option.bind_eq_some_iff.mp H
     obtain ⟨⟨t820, t821⟩, A150, H⟩ := H
     have A15 := as0 A150
     clear A150
     replace H := Option.bind_eq_some_iff.mp H
     obtain ⟨⟨t824, t825⟩, A160, H⟩ := H
     have A16 := as0 A160
     clear A160
     replace H := Option.bind_eq_some_iff.mp H
     obtain ⟨⟨t826, t827⟩, A170, H⟩ := H
     have A17 := as0 A170
     clear A170
     have HC18 := as0 H
     clear H
     go_upto_region 11 with (first | ((with_reducible refine gate_callee (f := 30) rfl ?_); refine goesM_ (some 72) rfl rfl Try.func30 #[.slice A0 l0.length c0] rfl ?_; (with_reducible refine (spec_DrawDiscriminantOf.calls kj6 _ _ l0 t820 t821 _ ?side1 ?side2 A15.out).mono ?_); (case side1 => exact cs ((Kd.C_below HR0.out HB.out))); (case side2 => exact HC0.out); rintro e w19 ⟨v822, rfl, ho0, hb⟩; refine ⟨_, rfl, ?_⟩; have n0_ := as0 (Kd.R_elder' (rs HO_4) (Kd.R_base ho0) hb); have n1_ := as0 (Kd.R_elder' (rs HO_5) (Kd.R_base ho0) hb); have n2_ := as0 (Kd.R_lower (Kd.R_new' (Kd.R_new' ho0 (Kd.R_lt (rs HO_4))) (Kd.R_lt (rs HO_5))) (below_size (bs HB))); have n3_ := as0 (below_step (bs HB) hb); clear HO_4; clear HO_5; clear HB; have HO_4 := n0_; have HO_5 := n1_; have HO823 := n2_; have HB := n3_; clear n0_ n1_ n2_ n3_; (try clear hb); (try clear hb2); (try clear hk); (try clear hi); (try clear ho0); obtain ⟨Ao20, co20, eo20⟩ := Kd.R_slice HO823.out; subst eo20) | ((with_reducible refine gate_callee (f := 24) rfl ?_); refine goesM_ (some 78) rfl rfl Try.func24 #[.int .i64 t820, .slice Ao20 t821.length co20] rfl ?_; (with_reducible refine (impl_DiscriminantOf.calls kj6 t820 _ _ t821 t824 t825 _ ?side1 ?side2 A16.out).mono ?_); (case side1 => exact cs ((Kd.R_reads' HO823.out).2.2)); (case side2 => exact (Kd.R_reads' HO823.out).2.1); rintro e w21 ⟨rfl, hb⟩; refine ⟨_, rfl, ?_⟩; have n0_ := as0 (Kd.R_below (rs HO_4) hb); have n1_ := as0 (Kd.R_below (rs HO_5) hb); have n2_ := as0 (Kd.R_below (rs HO823) hb); have n3_ := as0 (below_step (bs HB) hb); clear HO_4; clear HO_5; clear HO823; clear HB; have HO_4 := n0_; have HO_5 := n1_; have HO823 := n2_; have HB := n3_; clear n0_ n1_ n2_ n3_; (try clear hb); (try clear hb2); (try clear hk); (try clear hi)) | ((with_reducible refine gate_callee (f := 23) rfl ?_); refine goesM_ (some 84) rfl rfl Try.func23 #[.int .i64 t820, .slice Ao20 t821.length co20] rfl ?_; (with_reducible refine (spec_DiscriminantOf.calls kj6 t820 (fun k_ => some k_ = (.slice Ao20 t821.length co20 : Value).ownBlock) _ _ t821 t826 t827 _ ?side1 A17.out).mono ?_); (case side1 => exact Kd.R_V (Kd.R_tight rfl (HO823.out))); rintro e w22 ⟨rfl, hb⟩; refine ⟨_, rfl, ?_⟩; have n0_ := as0 (Kd.R_below (rs HO_4) hb); have n1_ := as0 (Kd.R_below (rs HO_5) hb); have n2_ := as0 (Kd.R_below (rs HO823) hb); have n3_ := as0 (below_step (bs HB) hb); clear HO_4; clear HO_5; clear HO823; clear HB; have HO_4 := n0_; have HO_5 := n1_; have HO823 := n2_; have HB := n3_; clear n0_ n1_ n2_ n3_; (try clear hb); (try clear hb2); (try clear hk); (try clear hi)))
     (try simp only [Act.put, List.setIfInBounds_toArray, List.set_cons_zero, List.set_cons_succ])
     go_cut [94] from 70 to 86 (fun v94 wc => ∃ (kq : Nat) (x94_17 : Bool), v94 = .bool x94_17 ∧ Aside0 (laws_FnResultants.j1 kq l0 t809 t810 t811 t816 t817 t820 t821 t824 t825 x94_17 = some r) ∧ Aside0 (kq ≤ kj6) ∧ Aside0 (Kd.R (Kd.int .i64) 2 wc w.heap.size (fun k_ => some k_ ≠ ((.slice Ao10 t811.length co10) : Value).ownBlock ∧ some k_ ≠ ((.slice Ao20 t821.length co20) : Value).ownBlock) (.slice Ao9 t810.length co9) t810) ∧ Aside0 (Kd.R (Kd.int .i64) 2 wc w.heap.size (fun k_ => some k_ ≠ ((.slice Ao9 t810.length co9) : Value).ownBlock ∧ some k_ ≠ ((.slice Ao20 t821.length co20) : Value).ownBlock) (.slice Ao10 t811.length co10) t811) ∧ Aside0 (Kd.R (Kd.int .i64) 2 wc w.heap.size (fun k_ => some k_ ≠ ((.slice Ao9 t810.length co9) : Value).ownBlock ∧ some k_ ≠ ((.slice Ao10 t811.length co10) : Value).ownBlock) (.slice Ao20 t821.length co20) t821) ∧ Aside0 (Below w.heap.size w wc))
     case first =>
      have H := HC18.out
      clear HC18
      by_cases c23 : t825 = t827
      ·
       rw [if_pos c23] at H
       have c23b0 : (t825 == t827) = true := beq_iff_eq.mpr c23
       have c23b1 : (t825 != t827) = false := bne_eq_false_iff_eq.mpr c23
       clear c23
       (first | rw [c23b0] | (simp only [i64_w, i32_w]; rw [c23b0]) | skip)
       have H' := as0 H
       clear H
       go_wp2
       go_meet
       case rel => exact ⟨_, ((t824 != t826)), ea_, H', ⟨by have := HJ6.out; first | omega | exact Nat.le_refl _⟩, ⟨rs HO_4⟩, ⟨rs HO_5⟩, ⟨by (with_reducible repeat (first | apply Kd.R_alloc | apply Kd.R_drewN | apply Kd.R_drew)); exact Kd.R_mono HO823.out (fun _ hk => ⟨hk.1.2, hk.2⟩)⟩, ⟨bs HB⟩⟩
      ·
       rw [if_neg c23] at H
       have c23b0 : (t825 == t827) = false := beq_eq_false_iff_ne.mpr c23
       have c23b1 : (t825 != t827) = true := bne_iff_ne.mpr c23
       (first | rw [c23b0] | (simp only [i64_w, i32_w]; rw [c23b0]) | skip)
       have H' := as0 H
       clear H
       go_wp2
       go_meet
       case rel => exact ⟨_, (true), ea_, H', ⟨by have := HJ6.out; first | omega | exact Nat.le_refl _⟩, ⟨rs HO_4⟩, ⟨rs HO_5⟩, ⟨by (with_reducible repeat (first | apply Kd.R_alloc | apply Kd.R_drewN | apply Kd.R_drew)); exact Kd.R_mono HO823.out (fun _ hk => ⟨hk.1.2, hk.2⟩)⟩, ⟨bs HB⟩⟩
     case rest => as_aux_lemma =>
      clear HC18
      try clear c1
      try clear c2
      try clear p2
      try clear c3
      try clear c8
      try clear c13
      try clear c13b0
      try clear c13b1
      try clear c14
      try clear c21
      try clear c22
      try clear c23
      try clear c23b0
      try clear c23b1
      try clear p2
      obtain ⟨kq, x94_17, rfl, HA, HJ17, HO_4, HO_5, HO_11, HB⟩ := hcut
      cases kq with
      | zero => exact absurd HA.out (by simp [laws_FnResultants.j1])
      | succ kj17 =>
       have H := HA.out
       clear HA
       simp only [laws_FnResultants.j1] at H
       by_cases c24 : x94_17 = true
       ·
        subst c24
        have H1 : (some false) = some r := by rw [if_pos rfl] at H; exact H
        clear H
        have H := H1
        clear H1
        obtain rfl := Option.some.inj H
        go_wp2
        go_ret
        exact ⟨er_, bs HB⟩
       ·
        replace c24 := Bool.eq_false_iff.mpr c24
        subst c24
        have H1 : ((impl_IsSimplePolynomial.f kj17 t820 t821).bind fun bt828 => ((spec_IsSimplePolynomial.f kj17 t820 t821).bind fun bt830 => (if bt828.2 = bt830.2 then (laws_FnResultants.j2 kj17 l0 t809 t810 t811 t816 t817 t820 t821 t824 t825 bt828.1 bt828.2 (bt828.1 != bt830.1)) else (laws_FnResultants.j2 kj17 l0 t809 t810 t811 t816 t817 t820 t821 t824 t825 bt828.1 bt828.2 true)))) = some r := by rw [if_neg (show ¬ (false = true) by decide)] at H; exact H
        clear H
        have H := H1
        clear H1
        replace H := Option.bind_eq_some_iff.mp H
        obtain ⟨⟨t828, t829⟩, A250, H⟩ := H
        have A25 := as0 A250
        clear A250
        replace H := Option.bind_eq_some_iff.mp H
        obtain ⟨⟨t830, t831⟩, A260, H⟩ := H
        have A26 := as0 A260
        clear A260
        have HC27 := as0 H
        clear H
        go_upto_region 15 with (first | ((with_reducible refine gate_callee (f := 31) rfl ?_); refine goesM_ (some 98) rfl rfl Try.func31 #[.int .i64 t820, .slice Ao20 t821.length co20] rfl ?_; (with_reducible refine (impl_IsSimplePolynomial.calls kj17 t820 _ _ t821 t828 t829 _ ?side1 ?side2 A25.out).mono ?_); (case side1 => exact cs ((Kd.R_reads' HO_11.out).2.2)); (case side2 => exact (Kd.R_reads' HO_11.out).2.1); rintro e w28 ⟨rfl, hb⟩; refine ⟨_, rfl, ?_⟩; have n0_ := as0 (Kd.R_below (rs HO_4) hb); have n1_ := as0 (Kd.R_below (rs HO_5) hb); have n2_ := as0 (Kd.R_below (rs HO_11) hb); have n3_ := as0 (below_step (bs HB) hb); clear HO_4; clear HO_5; clear HO_11; clear HB; have HO_4 := n0_; have HO_5 := n1_; have HO_11 := n2_; have HB := n3_; clear n0_ n1_ n2_ n3_; (try clear hb); (try clear hb2); (try clear hk); (try clear hi)) | ((with_reducible refine gate_callee (f := 32) rfl ?_); refine goesM_ (some 104) rfl rfl Try.func32 #[.int .i64 t820, .slice Ao20 t821.length co20] rfl ?_; (with_reducible refine (spec_IsSimplePolynomial.calls kj17 t820 (fun k_ => some k_ = (.slice Ao20 t821.length co20 : Value).ownBlock) _ _ t821 t830 t831 _ ?side1 A26.out).mono ?_); (case side1 => exact Kd.R_V (Kd.R_tight rfl (HO_11.out))); rintro e w29 ⟨rfl, hb⟩; refine ⟨_, rfl, ?_⟩; have n0_ := as0 (Kd.R_below (rs HO_4) hb); have n1_ := as0 (Kd.R_below (rs HO_5) hb); have n2_ := as0 (Kd.R_below (rs HO_11) hb); have n3_ := as0 (below_step (bs HB) hb); clear HO_4; clear HO_5; clear HO_11; clear HB; have HO_4 := n0_; have HO_5 := n1_; have HO_11 := n2_; have HB := n3_; clear n0_ n1_ n2_ n3_; (try clear hb); (try clear hb2); (try clear hk); (try clear hi)))
        (try simp only [Act.put, List.setIfInBounds_toArray, List.set_cons_zero, List.set_cons_succ])
        go_cut [114] from 95 to 106 (fun v114 wc => ∃ (kq : Nat) (x114_26 : Bool), v114 = .bool x114_26 ∧ Aside0 (laws_FnResultants.j2 kq l0 t809 t810 t811 t816 t817 t820 t821 t824 t825 t828 t829 x114_26 = some r) ∧ Aside0 (kq ≤ kj17) ∧ Aside0 (Kd.R (Kd.int .i64) 2 wc w.heap.size (fun k_ => some k_ ≠ ((.slice Ao10 t811.length co10) : Value).ownBlock ∧ some k_ ≠ ((.slice Ao20 t821.length co20) : Value).ownBlock) (.slice Ao9 t810.length co9) t810) ∧ Aside0 (Kd.R (Kd.int .i64) 2 wc w.heap.size (fun k_ => some k_ ≠ ((.slice Ao9 t810.length co9) : Value).ownBlock ∧ some k_ ≠ ((.slice Ao20 t821.length co20) : Value).ownBlock) (.slice Ao10 t811.length co10) t811) ∧ Aside0 (Kd.R (Kd.int .i64) 2 wc w.heap.size (fun k_ => some k_ ≠ ((.slice Ao9 t810.length co9) : Value).ownBlock ∧ some k_ ≠ ((.slice Ao10 t811.length co10) : Value).ownBlock) (.slice Ao20 t821.length co20) t821) ∧ Aside0 (Below w.heap.size w wc))
        case first =>
         have H := HC27.out
         clear HC27
         by_cases c30 : t829 = t831
         ·
          rw [if_pos c30] at H
          have c30b0 : (t829 == t831) = true := beq_iff_eq.mpr c30
          have c30b1 : (t829 != t831) = false := bne_eq_false_iff_eq.mpr c30
          clear c30
          (first | rw [c30b0] | (simp only [i64_w, i32_w]; rw [c30b0]) | skip)
          have H' := as0 H
          clear H
          go_wp2
          go_meet
          case rel => exact ⟨_, ((t828 != t830)), ea_, H', ⟨by have := HJ6.out; have := HJ17.out; first | omega | exact Nat.le_refl _⟩, ⟨rs HO_4⟩, ⟨rs HO_5⟩, ⟨rs HO_11⟩, ⟨bs HB⟩⟩
         ·
          rw [if_neg c30] at H
          have c30b0 : (t829 == t831) = false := beq_eq_false_iff_ne.mpr c30
          have c30b1 : (t829 != t831) = true := bne_iff_ne.mpr c30
          (first | rw [c30b0] | (simp only [i64_w, i32_w]; rw [c30b0]) | skip)
          have H' := as0 H
          clear H
          go_wp2
          go_meet
          case rel => exact ⟨_, (true), ea_, H', ⟨by have := HJ6.out; have := HJ17.out; first | omega | exact Nat.le_refl _⟩, ⟨rs HO_4⟩, ⟨rs HO_5⟩, ⟨rs HO_11⟩, ⟨bs HB⟩⟩
        case rest => as_aux_lemma =>
         clear HC27
         try clear c1
         try clear c2
         try clear p2
         try clear c3
         try clear c8
         try clear c13
         try clear c13b0
         try clear c13b1
         try clear c14
         try clear c21
         try clear c22
         try clear c23
         try clear c23b0
         try clear c23b1
         try clear c24
         try clear c28
         try clear c29
         try clear c30
         try clear c30b0
         try clear c30b1
         try clear p2
         obtain ⟨kq, x114_26, rfl, HA, HJ26, HO_4, HO_5, HO_11, HB⟩ := hcut
         cases kq with
         | zero => exact absurd HA.out (by simp [laws_FnResultants.j2])
         | succ kj26 =>
          have H := HA.out
          clear HA
          simp only [laws_FnResultants.j2] at H
          by_cases c31 : x114_26 = true
          ·
           subst c31
           have H1 : (some false) = some r := by rw [if_pos rfl] at H; exact H
           clear H
           have H := H1
           clear H1
           obtain rfl := Option.some.inj H
           go_wp2
           go_ret
           exact ⟨er_, bs HB⟩
          ·
           replace c31 := Bool.eq_false_iff.mpr c31
           subst c31
           have H1 : ((impl_SimplePart.f kj26 t820 t821).bind fun bt832 => ((spec_SimplePart.f kj26 t820 t821).bind fun bt836 => (if bt832.2 = bt836.2 then ((laws_likeInts.f kj26 bt832.1 bt836.1).bind fun t840 => (laws_FnResultants.j3 kj26 l0 t809 t810 t811 t816 t817 t821 t824 t825 t828 t829 bt832.1 bt832.2 (!t840))) else (laws_FnResultants.j3 kj26 l0 t809 t810 t811 t816 t817 t821 t824 t825 t828 t829 bt832.1 bt832.2 true)))) = some r := by rw [if_neg (show ¬ (false = true) by decide)] at H; exact H
           clear H
           have H := H1
           clear H1
           replace H := Option.bind_eq_some_iff.mp H
           obtain ⟨⟨t832, t833⟩, A320, H⟩ := H
           have A32 := as0 A320
           clear A320
           replace H := Option.bind_eq_some_iff.mp H
           obtain ⟨⟨t836, t839⟩, A330, H⟩ := H
           have A33 := as0 A330
           clear A330
           have HC34 := as0 H
           clear H
           go_upto_region 19 with (first | ((with_reducible refine gate_callee (f := 33) rfl ?_); refine goesM_ (some 118) rfl rfl Try.func33 #[.int .i64 t820, .slice Ao20 t821.length co20] rfl ?_; (with_reducible refine (impl_SimplePart.calls kj26 t820 _ _ t821 t832 t833 _ ?side1 ?side2 A32.out).mono ?_); (case side1 => exact cs ((Kd.R_reads' HO_11.out).2.2)); (case side2 => exact (Kd.R_reads' HO_11.out).2.1); rintro e w35 ⟨v834, rfl, ho0, hb⟩; refine ⟨_, rfl, ?_⟩; have n0_ := as0 (Kd.R_elder' (rs HO_4) (Kd.R_base ho0) hb); have n1_ := as0 (Kd.R_elder' (rs HO_5) (Kd.R_base ho0) hb); have n2_ := as0 (Kd.R_elder' (rs HO_11) (Kd.R_base ho0) hb); have n3_ := as0 (Kd.R_lower (Kd.R_new' (Kd.R_new' (Kd.R_new' ho0 (Kd.R_lt (rs HO_4))) (Kd.R_lt (rs HO_5))) (Kd.R_lt (rs HO_11))) (below_size (bs HB))); have n4_ := as0 (below_step (bs HB) hb); clear HO_4; clear HO_5; clear HO_11; clear HB; have HO_4 := n0_; have HO_5 := n1_; have HO_11 := n2_; have HO835 := n3_; have HB := n4_; clear n0_ n1_ n2_ n3_ n4_; (try clear hb); (try clear hb2); (try clear hk); (try clear hi); (try clear ho0)) | ((with_reducible refine gate_callee (f := 34) rfl ?_); refine goesM_ (some 124) rfl rfl Try.func34 #[.int .i64 t820, .slice Ao20 t821.length co20] rfl ?_; (with_reducible refine (spec_SimplePart.calls kj26 t820 (fun k_ => some k_ = (.slice Ao20 t821.length co20 : Value).ownBlock) _ _ t821 t836 t839 _ ?side1 A33.out).mono ?_); (case side1 => exact Kd.R_V (Kd.R_tight rfl (HO_11.out))); rintro e w36 ⟨v837, rfl, ho0, hb⟩; refine ⟨_, rfl, ?_⟩; have n0_ := as0 (Kd.R_elder' (rs HO_4) (Kd.R_base ho0) hb); have n1_ := as0 (Kd.R_elder' (rs HO_5) (Kd.R_base ho0) hb); have n2_ := as0 (Kd.R_elder' (rs HO_11) (Kd.R_base ho0) hb); have n3_ := as0 (Kd.R_elder' (rs HO835) (Kd.R_base ho0) hb); have n4_ := as0 (Kd.R_lower (Kd.R_new' (Kd.R_new' (Kd.R_new' (Kd.R_new' (Kd.R_mono (ok' := fun k_ => True) ho0 (fun _ hk_ => trivial)) (Kd.R_lt (rs HO_4))) (Kd.R_lt (rs HO_5))) (Kd.R_lt (rs HO_11))) (Kd.R_lt (rs HO835))) (below_size (bs HB))); have n5_ := as0 (below_step (bs HB) hb); clear HO_4; clear HO_5; clear HO_11; clear HO835; clear HB; have HO_4 := n0_; have HO_5 := n1_; have HO_11 := n2_; have HO835 := n3_; have HO838 := n4_; have HB := n5_; clear n0_ n1_ n2_ n3_ n4_ n5_; (try clear hb); (try clear hb2); (try clear hk); (try clear hi); (try clear ho0)))
           (try simp only [Act.put, List.setIfInBounds_toArray, List.set_cons_zero, List.set_cons_succ])
           go_cut [135] from 115 to 126 (fun v135 wc => ∃ (kq : Nat) (x135_33 : Bool), v135 = .bool x135_33 ∧ Aside0 (laws_FnResultants.j3 kq l0 t809 t810 t811 t816 t817 t821 t824 t825 t828 t829 t832 t833 x135_33 = some r) ∧ Aside0 (kq ≤ kj26) ∧ Aside0 (Kd.R (Kd.int .i64) 2 wc w.heap.size (fun k_ => some k_ ≠ ((.slice Ao10 t811.length co10) : Value).ownBlock ∧ some k_ ≠ ((.slice Ao20 t821.length co20) : Value).ownBlock ∧ some k_ ≠ (v834 : Value).ownBlock) (.slice Ao9 t810.length co9) t810) ∧ Aside0 (Kd.R (Kd.int .i64) 2 wc w.heap.size (fun k_ => some k_ ≠ ((.slice Ao9 t810.length co9) : Value).ownBlock ∧ some k_ ≠ ((.slice Ao20 t821.length co20) : Value).ownBlock ∧ some k_ ≠ (v834 : Value).ownBlock) (.slice Ao10 t811.length co10) t811) ∧ Aside0 (Kd.R (Kd.int .i64) 2 wc w.heap.size (fun k_ => some k_ ≠ ((.slice Ao9 t810.length co9) : Value).ownBlock ∧ some k_ ≠ ((.slice Ao10 t811.length co10) : Value).ownBlock ∧ some k_ ≠ (v834 : Value).ownBlock) (.slice Ao20 t821.length co20) t821) ∧ Aside0 (Kd.R (Kd.int .i64) 2 wc w.heap.size (fun k_ => some k_ ≠ ((.slice Ao9 t810.length co9) : Value).ownBlock ∧ some k_ ≠ ((.slice Ao10 t811.length co10) : Value).ownBlock ∧ some k_ ≠ ((.slice Ao20 t821.length co20) : Value).ownBlock) v834 t832) ∧ Aside0 (Below w.heap.size w wc))
           case first =>
            have H := HC34.out
            clear HC34
            by_cases c37 : t833 = t839
            ·
             rw [if_pos c37] at H
             have c37b0 : (t833 == t839) = true := beq_iff_eq.mpr c37
             have c37b1 : (t833 != t839) = false := bne_eq_false_iff_eq.mpr c37
             clear c37
             (first | rw [c37b0] | (simp only [i64_w, i32_w]; rw [c37b0]) | skip)
             replace H := Option.bind_eq_some_iff.mp H
             obtain ⟨t840, A380, H⟩ := H
             have A38 := as0 A380
             clear A380
             have H' := as0 H
             clear H
             obtain ⟨Ao39, co39, eo39⟩ := Kd.R_slice HO835.out
             subst eo39
             obtain ⟨Ao40, co40, eo40⟩ := Kd.R_slice HO838.out
             subst eo40
             go_wp2_with (first | (go_at_call 35; (with_reducible refine (laws_likeInts.calls kj26 _ _ t832 _ _ t836 t840 _ ?side1 ?side2 ?side3 ?side4 A38.out).mono ?_); (case side1 => exact cs ((Kd.R_reads' HO835.out).2.2)); (case side2 => exact (Kd.R_reads' HO835.out).2.1); (case side3 => exact cs ((Kd.R_reads' HO838.out).2.2)); (case side4 => exact (Kd.R_reads' HO838.out).2.1); rintro e w' ⟨rfl, ⟨nd, rfl⟩⟩))
             go_meet
             case rel => exact ⟨_, (!t840), ea_, H', ⟨by have := HJ6.out; have := HJ17.out; have := HJ26.out; first | omega | exact Nat.le_refl _⟩, ⟨by (with_reducible repeat (first | apply Kd.R_alloc | apply Kd.R_drewN | apply Kd.R_drew)); exact Kd.R_mono HO_4.out (fun _ hk => ⟨hk.1.1.1, ⟨hk.1.1.2, hk.1.2⟩⟩)⟩, ⟨by (with_reducible repeat (first | apply Kd.R_alloc | apply Kd.R_drewN | apply Kd.R_drew)); exact Kd.R_mono HO_5.out (fun _ hk => ⟨hk.1.1.1, ⟨hk.1.1.2, hk.1.2⟩⟩)⟩, ⟨by (with_reducible repeat (first | apply Kd.R_alloc | apply Kd.R_drewN | apply Kd.R_drew)); exact Kd.R_mono HO_11.out (fun _ hk => ⟨hk.1.1.1, ⟨hk.1.1.2, hk.1.2⟩⟩)⟩, ⟨by (with_reducible repeat (first | apply Kd.R_alloc | apply Kd.R_drewN | apply Kd.R_drew)); exact Kd.R_mono HO835.out (fun _ hk => ⟨hk.1.1.1.2, ⟨hk.1.1.2, hk.1.2⟩⟩)⟩, ⟨bs HB⟩⟩
            ·
             rw [if_neg c37] at H
             have c37b0 : (t833 == t839) = false := beq_eq_false_iff_ne.mpr c37
             have c37b1 : (t833 != t839) = true := bne_iff_ne.mpr c37
             (first | rw [c37b0] | (simp only [i64_w, i32_w]; rw [c37b0]) | skip)
             have H' := as0 H
             clear H
             go_wp2
             go_meet
             case rel => exact ⟨_, (true), ea_, H', ⟨by have := HJ6.out; have := HJ17.out; have := HJ26.out; first | omega | exact Nat.le_refl _⟩, ⟨by (with_reducible repeat (first | apply Kd.R_alloc | apply Kd.R_drewN | apply Kd.R_drew)); exact Kd.R_mono HO_4.out (fun _ hk => ⟨hk.1.1.1, ⟨hk.1.1.2, hk.1.2⟩⟩)⟩, ⟨by (with_reducible repeat (first | apply Kd.R_alloc | apply Kd.R_drewN | apply Kd.R_drew)); exact Kd.R_mono HO_5.out (fun _ hk => ⟨hk.1.1.1, ⟨hk.1.1.2, hk.1.2⟩⟩)⟩, ⟨by (with_reducible repeat (first | apply Kd.R_alloc | apply Kd.R_drewN | apply Kd.R_drew)); exact Kd.R_mono HO_11.out (fun _ hk => ⟨hk.1.1.1, ⟨hk.1.1.2, hk.1.2⟩⟩)⟩, ⟨by (with_reducible repeat (first | apply Kd.R_alloc | apply Kd.R_drewN | apply Kd.R_drew)); exact Kd.R_mono HO835.out (fun _ hk => ⟨hk.1.1.1.2, ⟨hk.1.1.2, hk.1.2⟩⟩)⟩, ⟨bs HB⟩⟩
           case rest => as_aux_lemma =>
            clear HC34
            try clear c1
            try clear c2
            try clear p2
            try clear c3
            try clear c8
            try clear c13
            try clear c13b0
            try clear c13b1
            try clear c14
            try clear c21
            try clear c22
            try clear c23
            try clear c23b0
            try clear c23b1
            try clear c24
            try clear c28
            try clear c29
            try clear c30
            try clear c30b0
            try clear c30b1
            try clear c31
            try clear c32
            try clear c33
            try clear c34
            try clear c37
            try clear c37b0
            try clear c37b1
            try clear p2
            obtain ⟨kq, x135_33, rfl, HA, HJ33, HO_4, HO_5, HO_11, HO_20, HB⟩ := hcut
            cases kq with
            | zero => exact absurd HA.out (by simp [laws_FnResultants.j3])
            | succ kj33 =>
             have H := HA.out
             clear HA
             simp only [laws_FnResultants.j3] at H
             by_cases c41 : x135_33 = true
             ·
              subst c41
              have H1 : (some false) = some r := by rw [if_pos rfl] at H; exact H
              clear H
              have H := H1
              clear H1
              obtain rfl := Option.some.inj H
              go_wp2
              go_ret
              exact ⟨er_, bs HB⟩
             ·
              replace c41 := Bool.eq_false_iff.mpr c41
              subst c41
              have H1 : ((spec_DrawCommonRoots.f kj33 l0).bind fun bt841 => ((impl_CommonRoots.f kj33 bt841.1 bt841.2.1 bt841.2.2).bind fun bt848 => ((spec_CommonRoots.f kj33 bt841.1 bt841.2.1 bt841.2.2).bind fun bt852 => (if bt848.2 = bt852.2 then ((laws_likeInts.f kj33 bt848.1 bt852.1).bind fun t856 => (laws_FnResultants.j4 kj33 t809 t810 t811 t816 t817 t821 t824 t825 t828 t829 t832 t833 bt841.1 bt841.2.1 bt841.2.2 bt848.1 bt848.2 (!t856))) else (laws_FnResultants.j4 kj33 t809 t810 t811 t816 t817 t821 t824 t825 t828 t829 t832 t833 bt841.1 bt841.2.1 bt841.2.2 bt848.1 bt848.2 true))))) = some r := by rw [if_neg (show ¬ (false = true) by decide)] at H; exact H
              clear H
              have H := H1
              clear H1
              replace H := Option.bind_eq_some_iff.mp H
              obtain ⟨⟨t841, t842, t843⟩, A420, H⟩ := H
              have A42 := as0 A420
              clear A420
              replace H := Option.bind_eq_some_iff.mp H
              obtain ⟨⟨t848, t849⟩, A430, H⟩ := H
              have A43 := as0 A430
              clear A430
              replace H := Option.bind_eq_some_iff.mp H
              obtain ⟨⟨t852, t855⟩, A440, H⟩ := H
              have A44 := as0 A440
              clear A440
              have HC45 := as0 H
              clear H
              go_upto_region 24 with (first | ((with_reducible refine gate_callee (f := 36) rfl ?_); refine goesM_ (some 138) rfl rfl Try.func36 #[.slice A0 l0.length c0] rfl ?_; (with_reducible refine (spec_DrawCommonRoots.calls kj33 _ _ l0 t841 t842 t843 _ ?side1 ?side2 A42.out).mono ?_); (case side1 => exact cs ((Kd.C_below HR0.out HB.out))); (case side2 => exact HC0.out); rintro e w46 ⟨v844, v846, rfl, ho0, ho1, hb⟩; refine ⟨_, rfl, ?_⟩; have n0_ := as0 (Kd.R_mono (Kd.R_told (Kd.R_told (Kd.R_old (rs HO_4) hb) (Kd.R_base ho0)) (Kd.R_base ho1)) (fun _ h_ => h_.1)); have n1_ := as0 (Kd.R_mono (Kd.R_told (Kd.R_told (Kd.R_old (rs HO_5) hb) (Kd.R_base ho0)) (Kd.R_base ho1)) (fun _ h_ => h_.1)); have n2_ := as0 (Kd.R_mono (Kd.R_told (Kd.R_told (Kd.R_old (rs HO_11) hb) (Kd.R_base ho0)) (Kd.R_base ho1)) (fun _ h_ => h_.1)); have n3_ := as0 (Kd.R_mono (Kd.R_told (Kd.R_told (Kd.R_old (rs HO_20) hb) (Kd.R_base ho0)) (Kd.R_base ho1)) (fun _ h_ => h_.1)); have n4_ := as0 (Kd.R_lower (Kd.R_new' (Kd.R_new' (Kd.R_new' (Kd.R_new' ho0 (Kd.R_lt (rs HO_4))) (Kd.R_lt (rs HO_5))) (Kd.R_lt (rs HO_11))) (Kd.R_lt (rs HO_20))) (below_size (bs HB))); have n5_ := as0 (Kd.R_lower (Kd.R_new' (Kd.R_new' (Kd.R_new' (Kd.R_new' ho1 (Kd.R_lt (rs HO_4))) (Kd.R_lt (rs HO_5))) (Kd.R_lt (rs HO_11))) (Kd.R_lt (rs HO_20))) (below_size (bs HB))); have n6_ := as0 (below_step (bs HB) hb); clear HO_4; clear HO_5; clear HO_11; clear HO_20; clear HB; have HO_4 := n0_; have HO_5 := n1_; have HO_11 := n2_; have HO_20 := n3_; have HO845 := n4_; have HO847 := n5_; have HB := n6_; clear n0_ n1_ n2_ n3_ n4_ n5_ n6_; (try clear hb); (try clear hb2); (try clear hk); (try clear hi); (try clear ho0); (try clear ho1); obtain ⟨Ao47, co47, eo47⟩ := Kd.R_slice HO845.out; subst eo47; obtain ⟨Ao48, co48, eo48⟩ := Kd.R_slice HO847.out; subst eo48) | ((with_reducible refine gate_callee (f := 37) rfl ?_); refine goesM_ (some 146) rfl rfl Try.func37 #[.int .i64 t841, .slice Ao47 t842.length co47, .slice Ao48 t843.length co48] rfl ?_; (with_reducible refine (impl_CommonRoots.calls kj33 t841 _ _ t842 _ _ t843 t848 t849 _ ?side1 ?side2 ?side3 ?side4 A43.out).mono ?_); (case side1 => exact cs ((Kd.R_reads' HO845.out).2.2)); (case side2 => exact (Kd.R_reads' HO845.out).2.1); (case side3 => exact cs ((Kd.R_reads' HO847.out).2.2)); (case side4 => exact (Kd.R_reads' HO847.out).2.1); rintro e w49 ⟨v850, rfl, ho0, hb⟩; refine ⟨_, rfl, ?_⟩; have n0_ := as0 (Kd.R_elder' (rs HO_4) (Kd.R_base ho0) hb); have n1_ := as0 (Kd.R_elder' (rs HO_5) (Kd.R_base ho0) hb); have n2_ := as0 (Kd.R_elder' (rs HO_11) (Kd.R_base ho0) hb); have n3_ := as0 (Kd.R_elder' (rs HO_20) (Kd.R_base ho0) hb); have n4_ := as0 (Kd.R_elder' (rs HO845) (Kd.R_base ho0) hb); have n5_ := as0 (Kd.R_elder' (rs HO847) (Kd.R_base ho0) hb); have n6_ := as0 (Kd.R_lower (Kd.R_new' (Kd.R_new' (Kd.R_new' (Kd.R_new' (Kd.R_new' (Kd.R_new' ho0 (Kd.R_lt (rs HO_4))) (Kd.R_lt (rs HO_5))) (Kd.R_lt (rs HO_11))) (Kd.R_lt (rs HO_20))) (Kd.R_lt (rs HO845))) (Kd.R_lt (rs HO847))) (below_size (bs HB))); have n7_ := as0 (below_step (bs HB) hb); clear HO_4; clear HO_5; clear HO_11; clear HO_20; clear HO845; clear HO847; clear HB; have HO_4 := n0_; have HO_5 := n1_; have HO_11 := n2_; have HO_20 := n3_; have HO845 := n4_; have HO847 := n5_; have HO851 := n6_; have HB := n7_; clear n0_ n1_ n2_ n3_ n4_ n5_ n6_ n7_; (try clear hb); (try clear hb2); (try clear hk); (try clear hi); (try clear ho0)) | ((with_reducible refine gate_callee (f := 38) rfl ?_); refine goesM_ (some 153) rfl rfl Try.func38 #[.int .i64 t841, .slice Ao47 t842.length co47, .slice Ao48 t843.length co48] rfl ?_; (with_reducible refine (spec_CommonRoots.calls kj33 t841 (fun k_ => some k_ = (.slice Ao47 t842.length co47 : Value).ownBlock) _ _ t842 (fun k_ => some k_ = (.slice Ao48 t843.length co48 : Value).ownBlock) _ _ t843 t852 t855 _ ?side1 ?side2 A44.out).mono ?_); (case side1 => exact Kd.R_V (Kd.R_tight rfl (HO845.out))); (case side2 => exact Kd.R_V (Kd.R_tight rfl (HO847.out))); rintro e w50 ⟨v853, rfl, ho0, hb⟩; refine ⟨_, rfl, ?_⟩; have n0_ := as0 (Kd.R_elder' (rs HO_4) (Kd.R_base ho0) hb); have n1_ := as0 (Kd.R_elder' (rs HO_5) (Kd.R_base ho0) hb); have n2_ := as0 (Kd.R_elder' (rs HO_11) (Kd.R_base ho0) hb); have n3_ := as0 (Kd.R_elder' (rs HO_20) (Kd.R_base ho0) hb); have n4_ := as0 (Kd.R_elder' (rs HO845) (Kd.R_base ho0) hb); have n5_ := as0 (Kd.R_elder' (rs HO847) (Kd.R_base ho0) hb); have n6_ := as0 (Kd.R_elder' (rs HO851) (Kd.R_base ho0) hb); have n7_ := as0 (Kd.R_lower (Kd.R_new' (Kd.R_new' (Kd.R_new' (Kd.R_new' (Kd.R_new' (Kd.R_new' (Kd.R_new' (Kd.R_mono (ok' := fun k_ => True) ho0 (fun _ hk_ => trivial)) (Kd.R_lt (rs HO_4))) (Kd.R_lt (rs HO_5))) (Kd.R_lt (rs HO_11))) (Kd.R_lt (rs HO_20))) (Kd.R_lt (rs HO845))) (Kd.R_lt (rs HO847))) (Kd.R_lt (rs HO851))) (below_size (bs HB))); have n8_ := as0 (below_step (bs HB) hb); clear HO_4; clear HO_5; clear HO_11; clear HO_20; clear HO845; clear HO847; clear HO851; clear HB; have HO_4 := n0_; have HO_5 := n1_; have HO_11 := n2_; have HO_20 := n3_; have HO845 := n4_; have HO847 := n5_; have HO851 := n6_; have HO854 := n7_; have HB := n8_; clear n0_ n1_ n2_ n3_ n4_ n5_ n6_ n7_ n8_; (try clear hb); (try clear hb2); (try clear hk); (try clear hi); (try clear ho0)))
              (try simp only [Act.put, List.setIfInBounds_toArray, List.set_cons_zero, List.set_cons_succ])
              go_cut [164] from 136 to 155 (fun v164 wc => ∃ (kq : Nat) (x164_44 : Bool), v164 = .bool x164_44 ∧ Aside0 (laws_FnResultants.j4 kq t809 t810 t811 t816 t817 t821 t824 t825 t828 t829 t832 t833 t841 t842 t843 t848 t849 x164_44 = some r) ∧ Aside0 (kq ≤ kj33) ∧ Aside0 (Kd.R (Kd.int .i64) 2 wc w.heap.size (fun k_ => some k_ ≠ ((.slice Ao10 t811.length co10) : Value).ownBlock ∧ some k_ ≠ ((.slice Ao20 t821.length co20) : Value).ownBlock ∧ some k_ ≠ (v834 : Value).ownBlock ∧ some k_ ≠ ((.slice Ao47 t842.length co47) : Value).ownBlock ∧ some k_ ≠ ((.slice Ao48 t843.length co48) : Value).ownBlock ∧ some k_ ≠ (v850 : Value).ownBlock) (.slice Ao9 t810.length co9) t810) ∧ Aside0 (Kd.R (Kd.int .i64) 2 wc w.heap.size (fun k_ => some k_ ≠ ((.slice Ao9 t810.length co9) : Value).ownBlock ∧ some k_ ≠ ((.slice Ao20 t821.length co20) : Value).ownBlock ∧ some k_ ≠ (v834 : Value).ownBlock ∧ some k_ ≠ ((.slice Ao47 t842.length co47) : Value).ownBlock ∧ some k_ ≠ ((.slice Ao48 t843.length co48) : Value).ownBlock ∧ some k_ ≠ (v850 : Value).ownBlock) (.slice Ao10 t811.length co10) t811) ∧ Aside0 (Kd.R (Kd.int .i64) 2 wc w.heap.size (fun k_ => some k_ ≠ ((.slice Ao9 t810.length co9) : Value).ownBlock ∧ some k_ ≠ ((.slice Ao10 t811.length co10) : Value).ownBlock ∧ some k_ ≠ (v834 : Value).ownBlock ∧ some k_ ≠ ((.slice Ao47 t842.length co47) : Value).ownBlock ∧ some k_ ≠ ((.slice Ao48 t843.length co48) : Value).ownBlock ∧ some k_ ≠ (v850 : Value).ownBlock) (.slice Ao20 t821.length co20) t821) ∧ Aside0 (Kd.R (Kd.int .i64) 2 wc w.heap.size (fun k_ => some k_ ≠ ((.slice Ao9 t810.length co9) : Value).ownBlock ∧ some k_ ≠ ((.slice Ao10 t811.length co10) : Value).ownBlock ∧ some k_ ≠ ((.slice Ao20 t821.length co20) : Value).ownBlock ∧ some k_ ≠ ((.slice Ao47 t842.length co47) : Value).ownBlock ∧ some k_ ≠ ((.slice Ao48 t843.length co48) : Value).ownBlock ∧ some k_ ≠ (v850 : Value).ownBlock) v834 t832) ∧ Aside0 (Kd.R (Kd.int .i64) 2 wc w.heap.size (fun k_ => some k_ ≠ ((.slice Ao9 t810.length co9) : Value).ownBlock ∧ some k_ ≠ ((.slice Ao10 t811.length co10) : Value).ownBlock ∧ some k_ ≠ ((.slice Ao20 t821.length co20) : Value).ownBlock ∧ some k_ ≠ (v834 : Value).ownBlock ∧ some k_ ≠ ((.slice Ao48 t843.length co48) : Value).ownBlock ∧ some k_ ≠ (v850 : Value).ownBlock) (.slice Ao47 t842.length co47) t842) ∧ Aside0 (Kd.R (Kd.int .i64) 2 wc w.heap.size (fun k_ => some k_ ≠ ((.slice Ao9 t810.length co9) : Value).ownBlock ∧ some k_ ≠ ((.slice Ao10 t811.length co10) : Value).ownBlock ∧ some k_ ≠ ((.slice Ao20 t821.length co20) : Value).ownBlock ∧ some k_ ≠ (v834 : Value).ownBlock ∧ some k_ ≠ ((.slice Ao47 t842.length co47) : Value).ownBlock ∧ some k_ ≠ (v850 : Value).ownBlock) (.slice Ao48 t843.length co48) t843) ∧ Aside0 (Kd.R (Kd.int .i64) 2 wc w.heap.size (fun k_ => some k_ ≠ ((.slice Ao9 t810.length co9) : Value).ownBlock ∧ some k_ ≠ ((.slice Ao10 t811.length co10) : Value).ownBlock ∧ some k_ ≠ ((.slice Ao20 t821.length co20) : Value).ownBlock ∧ some k_ ≠ (v834 : Value).ownBlock ∧ some k_ ≠ ((.slice Ao47 t842.length co47) : Value).ownBlock ∧ some k_ ≠ ((.slice Ao48 t843.length co48) : Value).ownBlock) v850 t848) ∧ Aside0 (Below w.heap.size w wc))
              case first =>
               have H := HC45.out
               clear HC45
               by_cases c51 : t849 = t855
               ·
                rw [if_pos c51] at H
                have c51b0 : (t849 == t855) = true := beq_iff_eq.mpr c51
                have c51b1 : (t849 != t855) = false := bne_eq_false_iff_eq.mpr c51
                clear c51
                (first | rw [c51b0] | (simp only [i64_w, i32_w]; rw [c51b0]) | skip)
                replace H := Option.bind_eq_some_iff.mp H
                obtain ⟨t856, A520, H⟩ := H
                have A52 := as0 A520
                clear A520
                have H' := as0 H
                clear H
                obtain ⟨Ao53, co53, eo53⟩ := Kd.R_slice HO851.out
                subst eo53
                obtain ⟨Ao54, co54, eo54⟩ := Kd.R_slice HO854.out
                subst eo54
                go_wp2_with (first | (go_at_call 35; (with_reducible refine (laws_likeInts.calls kj33 _ _ t848 _ _ t852 t856 _ ?side1 ?side2 ?side3 ?side4 A52.out).mono ?_); (case side1 => exact cs ((Kd.R_reads' HO851.out).2.2)); (case side2 => exact (Kd.R_reads' HO851.out).2.1); (case side3 => exact cs ((Kd.R_reads' HO854.out).2.2)); (case side4 => exact (Kd.R_reads' HO854.out).2.1); rintro e w' ⟨rfl, ⟨nd, rfl⟩⟩))
                go_meet
                case rel => exact ⟨_, (!t856), ea_, H', ⟨by have := HJ6.out; have := HJ17.out; have := HJ26.out; have := HJ33.out; first | omega | exact Nat.le_refl _⟩, ⟨by (with_reducible repeat (first | apply Kd.R_alloc | apply Kd.R_drewN | apply Kd.R_drew)); exact Kd.R_mono HO_4.out (fun _ hk => ⟨hk.1.1.1.1.1, ⟨hk.1.1.1.1.2.1, ⟨hk.1.1.1.1.2.2, ⟨hk.1.1.1.2, ⟨hk.1.1.2, hk.1.2⟩⟩⟩⟩⟩)⟩, ⟨by (with_reducible repeat (first | apply Kd.R_alloc | apply Kd.R_drewN | apply Kd.R_drew)); exact Kd.R_mono HO_5.out (fun _ hk => ⟨hk.1.1.1.1.1, ⟨hk.1.1.1.1.2.1, ⟨hk.1.1.1.1.2.2, ⟨hk.1.1.1.2, ⟨hk.1.1.2, hk.1.2⟩⟩⟩⟩⟩)⟩, ⟨by (with_reducible repeat (first | apply Kd.R_alloc | apply Kd.R_drewN | apply Kd.R_drew)); exact Kd.R_mono HO_11.out (fun _ hk => ⟨hk.1.1.1.1.1, ⟨hk.1.1.1.1.2.1, ⟨hk.1.1.1.1.2.2, ⟨hk.1.1.1.2, ⟨hk.1.1.2, hk.1.2⟩⟩⟩⟩⟩)⟩, ⟨by (with_reducible repeat (first | apply Kd.R_alloc | apply Kd.R_drewN | apply Kd.R_drew)); exact Kd.R_mono HO_20.out (fun _ hk => ⟨hk.1.1.1.1.1, ⟨hk.1.1.1.1.2.1, ⟨hk.1.1.1.1.2.2, ⟨hk.1.1.1.2, ⟨hk.1.1.2, hk.1.2⟩⟩⟩⟩⟩)⟩, ⟨by (with_reducible repeat (first | apply Kd.R_alloc | apply Kd.R_drewN | apply Kd.R_drew)); exact Kd.R_mono HO845.out (fun _ hk => ⟨hk.1.1.1.1.1.2, ⟨hk.1.1.1.1.2, ⟨hk.1.1.1.2, ⟨hk.1.1.2, ⟨hk.1.1.1.1.1.1, hk.1.2⟩⟩⟩⟩⟩)⟩, ⟨by (with_reducible repeat (first | apply Kd.R_alloc | apply Kd.R_drewN | apply Kd.R_drew)); exact Kd.R_mono HO847.out (fun _ hk => ⟨hk.1.1.1.1.1.2, ⟨hk.1.1.1.1.2, ⟨hk.1.1.1.2, ⟨hk.1.1.2, ⟨hk.1.1.1.1.1.1, hk.1.2⟩⟩⟩⟩⟩)⟩, ⟨by (with_reducible repeat (first | apply Kd.R_alloc | apply Kd.R_drewN | apply Kd.R_drew)); exact Kd.R_mono HO851.out (fun _ hk => ⟨hk.1.1.1.1.1.1.2, ⟨hk.1.1.1.1.1.2, ⟨hk.1.1.1.1.2, ⟨hk.1.1.1.2, ⟨hk.1.1.2, hk.1.2⟩⟩⟩⟩⟩)⟩, ⟨bs HB⟩⟩
               ·
                rw [if_neg c51] at H
                have c51b0 : (t849 == t855) = false := beq_eq_false_iff_ne.mpr c51
                have c51b1 : (t849 != t855) = true := bne_iff_ne.mpr c51
                (first | rw [c51b0] | (simp only [i64_w, i32_w]; rw [c51b0]) | skip)
                have H' := as0 H
                clear H
                go_wp2
                go_meet
                case rel => exact ⟨_, (true), ea_, H', ⟨by have := HJ6.out; have := HJ17.out; have := HJ26.out; have := HJ33.out; first | omega | exact Nat.le_refl _⟩, ⟨by (with_reducible repeat (first | apply Kd.R_alloc | apply Kd.R_drewN | apply Kd.R_drew)); exact Kd.R_mono HO_4.out (fun _ hk => ⟨hk.1.1.1.1.1, ⟨hk.1.1.1.1.2.1, ⟨hk.1.1.1.1.2.2, ⟨hk.1.1.1.2, ⟨hk.1.1.2, hk.1.2⟩⟩⟩⟩⟩)⟩, ⟨by (with_reducible repeat (first | apply Kd.R_alloc | apply Kd.R_drewN | apply Kd.R_drew)); exact Kd.R_mono HO_5.out (fun _ hk => ⟨hk.1.1.1.1.1, ⟨hk.1.1.1.1.2.1, ⟨hk.1.1.1.1.2.2, ⟨hk.1.1.1.2, ⟨hk.1.1.2, hk.1.2⟩⟩⟩⟩⟩)⟩, ⟨by (with_reducible repeat (first | apply Kd.R_alloc | apply Kd.R_drewN | apply Kd.R_drew)); exact Kd.R_mono HO_11.out (fun _ hk => ⟨hk.1.1.1.1.1, ⟨hk.1.1.1.1.2.1, ⟨hk.1.1.1.1.2.2, ⟨hk.1.1.1.2, ⟨hk.1.1.2, hk.1.2⟩⟩⟩⟩⟩)⟩, ⟨by (with_reducible repeat (first | apply Kd.R_alloc | apply Kd.R_drewN | apply Kd.R_drew)); exact Kd.R_mono HO_20.out (fun _ hk => ⟨hk.1.1.1.1.1, ⟨hk.1.1.1.1.2.1, ⟨hk.1.1.1.1.2.2, ⟨hk.1.1.1.2, ⟨hk.1.1.2, hk.1.2⟩⟩⟩⟩⟩)⟩, ⟨by (with_reducible repeat (first | apply Kd.R_alloc | apply Kd.R_drewN | apply Kd.R_drew)); exact Kd.R_mono HO845.out (fun _ hk => ⟨hk.1.1.1.1.1.2, ⟨hk.1.1.1.1.2, ⟨hk.1.1.1.2, ⟨hk.1.1.2, ⟨hk.1.1.1.1.1.1, hk.1.2⟩⟩⟩⟩⟩)⟩, ⟨by (with_reducible repeat (first | apply Kd.R_alloc | apply Kd.R_drewN | apply Kd.R_drew)); exact Kd.R_mono HO847.out (fun _ hk => ⟨hk.1.1.1.1.1.2, ⟨hk.1.1.1.1.2, ⟨hk.1.1.1.2, ⟨hk.1.1.2, ⟨hk.1.1.1.1.1.1, hk.1.2⟩⟩⟩⟩⟩)⟩, ⟨by (with_reducible repeat (first | apply Kd.R_alloc | apply Kd.R_drewN | apply Kd.R_drew)); exact Kd.R_mono HO851.out (fun _ hk => ⟨hk.1.1.1.1.1.1.2, ⟨hk.1.1.1.1.1.2, ⟨hk.1.1.1.1.2, ⟨hk.1.1.1.2, ⟨hk.1.1.2, hk.1.2⟩⟩⟩⟩⟩)⟩, ⟨bs HB⟩⟩
              case rest => as_aux_lemma =>
               clear HC45
               try clear c1
               try clear c2
               try clear p2
               try clear c3
               try clear c4
               try clear c5
               try clear c8
               try clear c13
               try clear c13b0
               try clear c13b1
               try clear c14
               try clear c21
               try clear c22
               try clear c23
               try clear c23b0
               try clear c23b1
               try clear c24
               try clear c28
               try clear c29
               try clear c30
               try clear c30b0
               try clear c30b1
               try clear c31
               try clear c32
               try clear c33
               try clear c34
               try clear c36
               try clear c37
               try clear c37b0
               try clear c37b1
               try clear c38
               try clear c41
               try clear c51
               try clear c51b0
               try clear c51b1
               try clear p2
               obtain ⟨kq, x164_44, rfl, HA, HJ44, HO_4, HO_5, HO_11, HO_20, HO_25, HO_26, HO_27, HB⟩ := hcut
               cases kq with
               | zero => exact absurd HA.out (by simp [laws_FnResultants.j4])
               | succ kj44 =>
                have H := HA.out
                clear HA
                simp only [laws_FnResultants.j4] at H
                by_cases c55 : x164_44 = true
                ·
                 subst c55
                 have H1 : (some false) = some r := by rw [if_pos rfl] at H; exact H
                 clear H
                 have H := H1
                 clear H1
                 obtain rfl := Option.some.inj H
                 go_wp2
                 go_ret
                 exact ⟨er_, bs HB⟩
                ·
                 replace c55 := Bool.eq_false_iff.mpr c55
                 subst c55
                 have H1 : (if t825 = 0 then (if t829 = 0 then (laws_FnResultants.j5 kj44 t809 t810 t811 t816 t817 t821 t828 t832 t833 t841 t842 t843 t848 t849 (t828 != (t824 != 0))) else (laws_FnResultants.j5 kj44 t809 t810 t811 t816 t817 t821 t828 t832 t833 t841 t842 t843 t848 t849 true)) else (laws_FnResultants.j5 kj44 t809 t810 t811 t816 t817 t821 t828 t832 t833 t841 t842 t843 t848 t849 false)) = some r := by rw [if_neg (show ¬ (false = true) by decide)] at H; exact H
                 clear H
                 have H := H1
                 clear H1
                 have HC56 := as0 H
                 clear H
                 go_upto_region 26 with (fail)
                 go_cut [176] from 164 to 164 (fun v176 wc => ∃ (kq : Nat) (x176_55 : Bool), v176 = .bool x176_55 ∧ Aside0 (laws_FnResultants.j5 kq t809 t810 t811 t816 t817 t821 t828 t832 t833 t841 t842 t843 t848 t849 x176_55 = some r) ∧ Aside0 (kq ≤ kj44) ∧ Aside0 (Kd.R (Kd.int .i64) 2 wc w.heap.size (fun k_ => some k_ ≠ ((.slice Ao10 t811.length co10) : Value).ownBlock ∧ some k_ ≠ ((.slice Ao20 t821.length co20) : Value).ownBlock ∧ some k_ ≠ (v834 : Value).ownBlock ∧ some k_ ≠ ((.slice Ao47 t842.length co47) : Value).ownBlock ∧ some k_ ≠ ((.slice Ao48 t843.length co48) : Value).ownBlock ∧ some k_ ≠ (v850 : Value).ownBlock) (.slice Ao9 t810.length co9) t810) ∧ Aside0 (Kd.R (Kd.int .i64) 2 wc w.heap.size (fun k_ => some k_ ≠ ((.slice Ao9 t810.length co9) : Value).ownBlock ∧ some k_ ≠ ((.slice Ao20 t821.length co20) : Value).ownBlock ∧ some k_ ≠ (v834 : Value).ownBlock ∧ some k_ ≠ ((.slice Ao47 t842.length co47) : Value).ownBlock ∧ some k_ ≠ ((.slice Ao48 t843.length co48) : Value).ownBlock ∧ some k_ ≠ (v850 : Value).ownBlock) (.slice Ao10 t811.length co10) t811) ∧ Aside0 (Kd.R (Kd.int .i64) 2 wc w.heap.size (fun k_ => some k_ ≠ ((.slice Ao9 t810.length co9) : Value).ownBlock ∧ some k_ ≠ ((.slice Ao10 t811.length co10) : Value).ownBlock ∧ some k_ ≠ (v834 : Value).ownBlock ∧ some k_ ≠ ((.slice Ao47 t842.length co47) : Value).ownBlock ∧ some k_ ≠ ((.slice Ao48 t843.length co48) : Value).ownBlock ∧ some k_ ≠ (v850 : Value).ownBlock) (.slice Ao20 t821.length co20) t821) ∧ Aside0 (Kd.R (Kd.int .i64) 2 wc w.heap.size (fun k_ => some k_ ≠ ((.slice Ao9 t810.length co9) : Value).ownBlock ∧ some k_ ≠ ((.slice Ao10 t811.length co10) : Value).ownBlock ∧ some k_ ≠ ((.slice Ao20 t821.length co20) : Value).ownBlock ∧ some k_ ≠ ((.slice Ao47 t842.length co47) : Value).ownBlock ∧ some k_ ≠ ((.slice Ao48 t843.length co48) : Value).ownBlock ∧ some k_ ≠ (v850 : Value).ownBlock) v834 t832) ∧ Aside0 (Kd.R (Kd.int .i64) 2 wc w.heap.size (fun k_ => some k_ ≠ ((.slice Ao9 t810.length co9) : Value).ownBlock ∧ some k_ ≠ ((.slice Ao10 t811.length co10) : Value).ownBlock ∧ some k_ ≠ ((.slice Ao20 t821.length co20) : Value).ownBlock ∧ some k_ ≠ (v834 : Value).ownBlock ∧ some k_ ≠ ((.slice Ao48 t843.length co48) : Value).ownBlock ∧ some k_ ≠ (v850 : Value).ownBlock) (.slice Ao47 t842.length co47) t842) ∧ Aside0 (Kd.R (Kd.int .i64) 2 wc w.heap.size (fun k_ => some k_ ≠ ((.slice Ao9 t810.length co9) : Value).ownBlock ∧ some k_ ≠ ((.slice Ao10 t811.length co10) : Value).ownBlock ∧ some k_ ≠ ((.slice Ao20 t821.length co20) : Value).ownBlock ∧ some k_ ≠ (v834 : Value).ownBlock ∧ some k_ ≠ ((.slice Ao47 t842.length co47) : Value).ownBlock ∧ some k_ ≠ (v850 : Value).ownBlock) (.slice Ao48 t843.length co48) t843) ∧ Aside0 (Kd.R (Kd.int .i64) 2 wc w.heap.size (fun k_ => some k_ ≠ ((.slice Ao9 t810.length co9) : Value).ownBlock ∧ some k_ ≠ ((.slice Ao10 t811.length co10) : Value).ownBlock ∧ some k_ ≠ ((.slice Ao20 t821.length co20) : Value).ownBlock ∧ some k_ ≠ (v834 : Value).ownBlock ∧ some k_ ≠ ((.slice Ao47 t842.length co47) : Value).ownBlock ∧ some k_ ≠ ((.slice Ao48 t843.length co48) : Value).ownBlock) v850 t848) ∧ Aside0 (Below w.heap.size w wc))
                 case first =>
                  have H := HC56.out
                  clear HC56
                  by_cases c57 : t825 = 0
                  ·
                   rw [if_pos c57] at H
                   have c57b0 : (t825 == 0) = true := beq_iff_eq.mpr c57
                   have c57b1 : (t825 != 0) = false := bne_eq_false_iff_eq.mpr c57
                   clear c57
                   (first | rw [c57b0] | (simp only [i64_w, i32_w]; rw [c57b0]) | skip)
                   by_cases c58 : t829 = 0
                   ·
                    rw [if_pos c58] at H
                    have c58b0 : (t829 == 0) = true := beq_iff_eq.mpr c58
                    have c58b1 : (t829 != 0) = false := bne_eq_false_iff_eq.mpr c58
                    clear c58
                    have H' := as0 H
                    clear H
                    go_wp2
                    go_meet
                    case rel => exact ⟨_, ((t828 != (t824 != 0))), ea_, H', ⟨by have := HJ6.out; have := HJ17.out; have := HJ26.out; have := HJ33.out; have := HJ44.out; first | omega | exact Nat.le_refl _⟩, ⟨rs HO_4⟩, ⟨rs HO_5⟩, ⟨rs HO_11⟩, ⟨rs HO_20⟩, ⟨rs HO_25⟩, ⟨rs HO_26⟩, ⟨rs HO_27⟩, ⟨bs HB⟩⟩
                   ·
                    rw [if_neg c58] at H
                    have c58b0 : (t829 == 0) = false := beq_eq_false_iff_ne.mpr c58
                    have c58b1 : (t829 != 0) = true := bne_iff_ne.mpr c58
                    have H' := as0 H
                    clear H
                    go_wp2
                    go_meet
                    case rel => exact ⟨_, (true), ea_, H', ⟨by have := HJ6.out; have := HJ17.out; have := HJ26.out; have := HJ33.out; have := HJ44.out; first | omega | exact Nat.le_refl _⟩, ⟨rs HO_4⟩, ⟨rs HO_5⟩, ⟨rs HO_11⟩, ⟨rs HO_20⟩, ⟨rs HO_25⟩, ⟨rs HO_26⟩, ⟨rs HO_27⟩, ⟨bs HB⟩⟩
                  ·
                   rw [if_neg c57] at H
                   have c57b0 : (t825 == 0) = false := beq_eq_false_iff_ne.mpr c57
                   have c57b1 : (t825 != 0) = true := bne_iff_ne.mpr c57
                   (first | rw [c57b0] | (simp only [i64_w, i32_w]; rw [c57b0]) | skip)
                   have H' := as0 H
                   clear H
                   go_wp2
                   go_meet
                   case rel => exact ⟨_, (false), ea_, H', ⟨by have := HJ6.out; have := HJ17.out; have := HJ26.out; have := HJ33.out; have := HJ44.out; first | omega | exact Nat.le_refl _⟩, ⟨rs HO_4⟩, ⟨rs HO_5⟩, ⟨rs HO_11⟩, ⟨rs HO_20⟩, ⟨rs HO_25⟩, ⟨rs HO_26⟩, ⟨rs HO_27⟩, ⟨bs HB⟩⟩
                 case rest => as_aux_lemma =>
                  clear HC56
                  try clear c1
                  try clear c2
                  try clear p2
                  try clear c3
                  try clear c4
                  try clear c5
                  try clear c8
                  try clear c13
                  try clear c13b0
                  try clear c13b1
                  try clear c14
                  try clear c21
                  try clear c22
                  try clear c23
                  try clear c23b0
                  try clear c23b1
                  try clear c24
                  try clear c28
                  try clear c29
                  try clear c30
                  try clear c30b0
                  try clear c30b1
                  try clear c31
                  try clear c32
                  try clear c33
                  try clear c34
                  try clear c36
                  try clear c37
                  try clear c37b0
                  try clear c37b1
                  try clear c38
                  try clear c41
                  try clear c51
                  try clear c51b0
                  try clear c51b1
                  try clear c55
                  try clear c57
                  try clear c57b0
                  try clear c57b1
                  try clear c58
                  try clear c58b0
                  try clear c58b1
                  try clear p2
                  obtain ⟨kq, x176_55, rfl, HA, HJ55, HO_4, HO_5, HO_11, HO_20, HO_25, HO_26, HO_27, HB⟩ := hcut
                  cases kq with
                  | zero => exact absurd HA.out (by simp [laws_FnResultants.j5])
                  | succ kj55 =>
                   have H := HA.out
                   clear HA
                   simp only [laws_FnResultants.j5] at H
                   by_cases c59 : x176_55 = true
                   ·
                    subst c59
                    have H1 : (some false) = some r := by rw [if_pos rfl] at H; exact H
                    clear H
                    have H := H1
                    clear H1
                    obtain rfl := Option.some.inj H
                    go_wp2
                    go_ret
                    exact ⟨er_, bs HB⟩
                   ·
                    replace c59 := Bool.eq_false_iff.mpr c59
                    subst c59
                    have H1 : (if t833 = 0 then (if t828 = true then (laws_FnResultants.j6 kj55 t809 t810 t811 t816 t817 t841 t842 t843 t848 t849 ((t832.length : Int) != (t821.length : Int))) else (laws_FnResultants.j6 kj55 t809 t810 t811 t816 t817 t841 t842 t843 t848 t849 false)) else (laws_FnResultants.j6 kj55 t809 t810 t811 t816 t817 t841 t842 t843 t848 t849 false)) = some r := by rw [if_neg (show ¬ (false = true) by decide)] at H; exact H
                    clear H
                    have H := H1
                    clear H1
                    have HC60 := as0 H
                    clear H
                    go_upto_region 28 with (fail)
                    go_cut [188] from 176 to 176 (fun v188 wc => ∃ (kq : Nat) (x188_59 : Bool), v188 = .bool x188_59 ∧ Aside0 (laws_FnResultants.j6 kq t809 t810 t811 t816 t817 t841 t842 t843 t848 t849 x188_59 = some r) ∧ Aside0 (kq ≤ kj55) ∧ Aside0 (Kd.R (Kd.int .i64) 2 wc w.heap.size (fun k_ => some k_ ≠ ((.slice Ao10 t811.length co10) : Value).ownBlock ∧ some k_ ≠ ((.slice Ao47 t842.length co47) : Value).ownBlock ∧ some k_ ≠ ((.slice Ao48 t843.length co48) : Value).ownBlock ∧ some k_ ≠ (v850 : Value).ownBlock) (.slice Ao9 t810.length co9) t810) ∧ Aside0 (Kd.R (Kd.int .i64) 2 wc w.heap.size (fun k_ => some k_ ≠ ((.slice Ao9 t810.length co9) : Value).ownBlock ∧ some k_ ≠ ((.slice Ao47 t842.length co47) : Value).ownBlock ∧ some k_ ≠ ((.slice Ao48 t843.length co48) : Value).ownBlock ∧ some k_ ≠ (v850 : Value).ownBlock) (.slice Ao10 t811.length co10) t811) ∧ Aside0 (Kd.R (Kd.int .i64) 2 wc w.heap.size (fun k_ => some k_ ≠ ((.slice Ao9 t810.length co9) : Value).ownBlock ∧ some k_ ≠ ((.slice Ao10 t811.length co10) : Value).ownBlock ∧ some k_ ≠ ((.slice Ao48 t843.length co48) : Value).ownBlock ∧ some k_ ≠ (v850 : Value).ownBlock) (.slice Ao47 t842.length co47) t842) ∧ Aside0 (Kd.R (Kd.int .i64) 2 wc w.heap.size (fun k_ => some k_ ≠ ((.slice Ao9 t810.length co9) : Value).ownBlock ∧ some k_ ≠ ((.slice Ao10 t811.length co10) : Value).ownBlock ∧ some k_ ≠ ((.slice Ao47 t842.length co47) : Value).ownBlock ∧ some k_ ≠ (v850 : Value).ownBlock) (.slice Ao48 t843.length co48) t843) ∧ Aside0 (Kd.R (Kd.int .i64) 2 wc w.heap.size (fun k_ => some k_ ≠ ((.slice Ao9 t810.length co9) : Value).ownBlock ∧ some k_ ≠ ((.slice Ao10 t811.length co10) : Value).ownBlock ∧ some k_ ≠ ((.slice Ao47 t842.length co47) : Value).ownBlock ∧ some k_ ≠ ((.slice Ao48 t843.length co48) : Value).ownBlock) v850 t848) ∧ Aside0 (Below w.heap.size w wc))
                    case first =>
                     have H := HC60.out
                     clear HC60
                     by_cases c61 : t833 = 0
                     ·
                      rw [if_pos c61] at H
                      have c61b0 : (t833 == 0) = true := beq_iff_eq.mpr c61
                      have c61b1 : (t833 != 0) = false := bne_eq_false_iff_eq.mpr c61
                      clear c61
                      (first | rw [c61b0] | (simp only [i64_w, i32_w]; rw [c61b0]) | skip)
                      by_cases c62 : t828 = true
                      ·
                       subst c62
                       have H1 : (laws_FnResultants.j6 kj55 t809 t810 t811 t816 t817 t841 t842 t843 t848 t849 ((t832.length : Int) != (t821.length : Int))) = some r := by rw [if_pos rfl] at H; exact H
                       clear H
                       have H := H1
                       clear H1
                       have H' := as0 H
                       clear H
                       obtain ⟨Ao63, co63, eo63⟩ := Kd.R_slice HO_20.out
                       subst eo63
                       go_wp2
                       go_meet
                       case rel => exact ⟨_, (((t832.length : Int) != (t821.length : Int))), ea_, H', ⟨by have := HJ6.out; have := HJ17.out; have := HJ26.out; have := HJ33.out; have := HJ44.out; have := HJ55.out; first | omega | exact Nat.le_refl _⟩, ⟨by (with_reducible repeat (first | apply Kd.R_alloc | apply Kd.R_drewN | apply Kd.R_drew)); exact Kd.R_mono HO_4.out (fun _ hk => ⟨hk.1, ⟨hk.2.2.2.1, ⟨hk.2.2.2.2.1, hk.2.2.2.2.2⟩⟩⟩)⟩, ⟨by (with_reducible repeat (first | apply Kd.R_alloc | apply Kd.R_drewN | apply Kd.R_drew)); exact Kd.R_mono HO_5.out (fun _ hk => ⟨hk.1, ⟨hk.2.2.2.1, ⟨hk.2.2.2.2.1, hk.2.2.2.2.2⟩⟩⟩)⟩, ⟨by (with_reducible repeat (first | apply Kd.R_alloc | apply Kd.R_drewN | apply Kd.R_drew)); exact Kd.R_mono HO_25.out (fun _ hk => ⟨hk.1, ⟨hk.2.1, ⟨hk.2.2.2.2.1, hk.2.2.2.2.2⟩⟩⟩)⟩, ⟨by (with_reducible repeat (first | apply Kd.R_alloc | apply Kd.R_drewN | apply Kd.R_drew)); exact Kd.R_mono HO_26.out (fun _ hk => ⟨hk.1, ⟨hk.2.1, ⟨hk.2.2.2.2.1, hk.2.2.2.2.2⟩⟩⟩)⟩, ⟨by (with_reducible repeat (first | apply Kd.R_alloc | apply Kd.R_drewN | apply Kd.R_drew)); exact Kd.R_mono HO_27.out (fun _ hk => ⟨hk.1, ⟨hk.2.1, ⟨hk.2.2.2.2.1, hk.2.2.2.2.2⟩⟩⟩)⟩, ⟨bs HB⟩⟩
                      ·
                       replace c62 := Bool.eq_false_iff.mpr c62
                       subst c62
                       have H1 : (laws_FnResultants.j6 kj55 t809 t810 t811 t816 t817 t841 t842 t843 t848 t849 false) = some r := by rw [if_neg (show ¬ (false = true) by decide)] at H; exact H
                       clear H
                       have H := H1
                       clear H1
                       have H' := as0 H
                       clear H
                       go_wp2
                       go_meet
                       case rel => exact ⟨_, (false), ea_, H', ⟨by have := HJ6.out; have := HJ17.out; have := HJ26.out; have := HJ33.out; have := HJ44.out; have := HJ55.out; first | omega | exact Nat.le_refl _⟩, ⟨by (with_reducible repeat (first | apply Kd.R_alloc | apply Kd.R_drewN | apply Kd.R_drew)); exact Kd.R_mono HO_4.out (fun _ hk => ⟨hk.1, ⟨hk.2.2.2.1, ⟨hk.2.2.2.2.1, hk.2.2.2.2.2⟩⟩⟩)⟩, ⟨by (with_reducible repeat (first | apply Kd.R_alloc | apply Kd.R_drewN | apply Kd.R_drew)); exact Kd.R_mono HO_5.out (fun _ hk => ⟨hk.1, ⟨hk.2.2.2.1, ⟨hk.2.2.2.2.1, hk.2.2.2.2.2⟩⟩⟩)⟩, ⟨by (with_reducible repeat (first | apply Kd.R_alloc | apply Kd.R_drewN | apply Kd.R_drew)); exact Kd.R_mono HO_25.out (fun _ hk => ⟨hk.1, ⟨hk.2.1, ⟨hk.2.2.2.2.1, hk.2.2.2.2.2⟩⟩⟩)⟩, ⟨by (with_reducible repeat (first | apply Kd.R_alloc | apply Kd.R_drewN | apply Kd.R_drew)); exact Kd.R_mono HO_26.out (fun _ hk => ⟨hk.1, ⟨hk.2.1, ⟨hk.2.2.2.2.1, hk.2.2.2.2.2⟩⟩⟩)⟩, ⟨by (with_reducible repeat (first | apply Kd.R_alloc | apply Kd.R_drewN | apply Kd.R_drew)); exact Kd.R_mono HO_27.out (fun _ hk => ⟨hk.1, ⟨hk.2.1, ⟨hk.2.2.2.2.1, hk.2.2.2.2.2⟩⟩⟩)⟩, ⟨bs HB⟩⟩
                     ·
                      rw [if_neg c61] at H
                      have c61b0 : (t833 == 0) = false := beq_eq_false_iff_ne.mpr c61
                      have c61b1 : (t833 != 0) = true := bne_iff_ne.mpr c61
                      (first | rw [c61b0] | (simp only [i64_w, i32_w]; rw [c61b0]) | skip)
                      have H' := as0 H
                      clear H
                      go_wp2
                      go_meet
                      case rel => exact ⟨_, (false), ea_, H', ⟨by have := HJ6.out; have := HJ17.out; have := HJ26.out; have := HJ33.out; have := HJ44.out; have := HJ55.out; first | omega | exact Nat.le_refl _⟩, ⟨by (with_reducible repeat (first | apply Kd.R_alloc | apply Kd.R_drewN | apply Kd.R_drew)); exact Kd.R_mono HO_4.out (fun _ hk => ⟨hk.1, ⟨hk.2.2.2.1, ⟨hk.2.2.2.2.1, hk.2.2.2.2.2⟩⟩⟩)⟩, ⟨by (with_reducible repeat (first | apply Kd.R_alloc | apply Kd.R_drewN | apply Kd.R_drew)); exact Kd.R_mono HO_5.out (fun _ hk => ⟨hk.1, ⟨hk.2.2.2.1, ⟨hk.2.2.2.2.1, hk.2.2.2.2.2⟩⟩⟩)⟩, ⟨by (with_reducible repeat (first | apply Kd.R_alloc | apply Kd.R_drewN | apply Kd.R_drew)); exact Kd.R_mono HO_25.out (fun _ hk => ⟨hk.1, ⟨hk.2.1, ⟨hk.2.2.2.2.1, hk.2.2.2.2.2⟩⟩⟩)⟩, ⟨by (with_reducible repeat (first | apply Kd.R_alloc | apply Kd.R_drewN | apply Kd.R_drew)); exact Kd.R_mono HO_26.out (fun _ hk => ⟨hk.1, ⟨hk.2.1, ⟨hk.2.2.2.2.1, hk.2.2.2.2.2⟩⟩⟩)⟩, ⟨by (with_reducible repeat (first | apply Kd.R_alloc | apply Kd.R_drewN | apply Kd.R_drew)); exact Kd.R_mono HO_27.out (fun _ hk => ⟨hk.1, ⟨hk.2.1, ⟨hk.2.2.2.2.1, hk.2.2.2.2.2⟩⟩⟩)⟩, ⟨bs HB⟩⟩
                    case rest => as_aux_lemma =>
                     clear HC60
                     try clear c1
                     try clear c2
                     try clear p2
                     try clear c3
                     try clear c4
                     try clear c5
                     try clear c6
                     try clear c8
                     try clear c13
                     try clear c13b0
                     try clear c13b1
                     try clear c14
                     try clear c21
                     try clear c22
                     try clear c23
                     try clear c23b0
                     try clear c23b1
                     try clear c24
                     try clear c28
                     try clear c29
                     try clear c30
                     try clear c30b0
                     try clear c30b1
                     try clear c31
                     try clear c32
                     try clear c33
                     try clear c34
                     try clear c36
                     try clear c37
                     try clear c37b0
                     try clear c37b1
                     try clear c38
                     try clear c41
                     try clear c51
                     try clear c51b0
                     try clear c51b1
                     try clear c55
                     try clear c57
                     try clear c57b0
                     try clear c57b1
                     try clear c58
                     try clear c58b0
                     try clear c58b1
                     try clear c59
                     try clear c61
                     try clear c61b0
                     try clear c61b1
                     try clear c62
                     try clear p2
                     obtain ⟨kq, x188_59, rfl, HA, HJ59, HO_4, HO_5, HO_25, HO_26, HO_27, HB⟩ := hcut
                     cases kq with
                     | zero => exact absurd HA.out (by simp [laws_FnResultants.j6])
                     | succ kj59 =>
                      have H := HA.out
                      clear HA
                      simp only [laws_FnResultants.j6] at H
                      by_cases c64 : x188_59 = true
                      ·
                       subst c64
                       have H1 : (some false) = some r := by rw [if_pos rfl] at H; exact H
                       clear H
                       have H := H1
                       clear H1
                       obtain rfl := Option.some.inj H
                       go_wp2
                       go_ret
                       exact ⟨er_, bs HB⟩
                      ·
                       replace c64 := Bool.eq_false_iff.mpr c64
                       subst c64
                       have H1 : (if t849 = 0 then (laws_FnResultants.l0 kj59 t809 t810 t811 t816 t817 t841 t842 t843 t848 0) else (laws_FnResultants.j8 kj59 t809 t810 t811 t816 t817)) = some r := by rw [if_neg (show ¬ (false = true) by decide)] at H; exact H
                       clear H
                       have H := H1
                       clear H1
                       have HC65 := as0 H
                       clear H
                       go_upto_if 190 with (fail)
                       go_cut [] from 189 to 190 (fun wc => ∃ (kq : Nat), Aside0 (laws_FnResultants.j8 kq t809 t810 t811 t816 t817 = some r) ∧ Aside0 (kq ≤ kj59) ∧ Aside0 (Kd.R (Kd.int .i64) 2 wc w.heap.size (fun k_ => some k_ ≠ ((.slice Ao10 t811.length co10) : Value).ownBlock) (.slice Ao9 t810.length co9) t810) ∧ Aside0 (Kd.R (Kd.int .i64) 2 wc w.heap.size (fun k_ => some k_ ≠ ((.slice Ao9 t810.length co9) : Value).ownBlock) (.slice Ao10 t811.length co10) t811) ∧ Aside0 (Below w.heap.size w wc))
                       case first =>
                        have H := HC65.out
                        clear HC65
                        by_cases c66 : t849 = 0
                        ·
                         rw [if_pos c66] at H
                         have c66b0 : (t849 == 0) = true := beq_iff_eq.mpr c66
                         have c66b1 : (t849 != 0) = false := bne_eq_false_iff_eq.mpr c66
                         clear c66
                         (first | rw [c66b0] | (simp only [i64_w, i32_w]; rw [c66b0]) | skip)
                         have H' := as0 H
                         clear H
                         go_wp2
                         go_loopg [31] kj59 (fun kq v31 w' => ∃ (x31_8 : Int), v31 = .int .i64 x31_8 ∧ Aside0 (laws_FnResultants.l0 kq t809 t810 t811 t816 t817 t841 t842 t843 t848 x31_8 = some r) ∧ Aside0 (kq ≤ kj59) ∧ Aside0 (Kd.R (Kd.int .i64) 2 w' w.heap.size (fun k_ => some k_ ≠ ((.slice Ao10 t811.length co10) : Value).ownBlock ∧ some k_ ≠ ((.slice Ao47 t842.length co47) : Value).ownBlock ∧ some k_ ≠ ((.slice Ao48 t843.length co48) : Value).ownBlock ∧ some k_ ≠ (v850 : Value).ownBlock) (.slice Ao9 t810.length co9) t810) ∧ Aside0 (Kd.R (Kd.int .i64) 2 w' w.heap.size (fun k_ => some k_ ≠ ((.slice Ao9 t810.length co9) : Value).ownBlock ∧ some k_ ≠ ((.slice Ao47 t842.length co47) : Value).ownBlock ∧ some k_ ≠ ((.slice Ao48 t843.length co48) : Value).ownBlock ∧ some k_ ≠ (v850 : Value).ownBlock) (.slice Ao10 t811.length co10) t811) ∧ Aside0 (Kd.R (Kd.int .i64) 2 w' w.heap.size (fun k_ => some k_ ≠ ((.slice Ao9 t810.length co9) : Value).ownBlock ∧ some k_ ≠ ((.slice Ao10 t811.length co10) : Value).ownBlock ∧ some k_ ≠ ((.slice Ao48 t843.length co48) : Value).ownBlock ∧ some k_ ≠ (v850 : Value).ownBlock) (.slice Ao47 t842.length co47) t842) ∧ Aside0 (Kd.R (Kd.int .i64) 2 w' w.heap.size (fun k_ => some k_ ≠ ((.slice Ao9 t810.length co9) : Value).ownBlock ∧ some k_ ≠ ((.slice Ao10 t811.length co10) : Value).ownBlock ∧ some k_ ≠ ((.slice Ao47 t842.length co47) : Value).ownBlock ∧ some k_ ≠ (v850 : Value).ownBlock) (.slice Ao48 t843.length co48) t843) ∧ Aside0 (Kd.R (Kd.int .i64) 2 w' w.heap.size (fun k_ => some k_ ≠ ((.slice Ao9 t810.length co9) : Value).ownBlock ∧ some k_ ≠ ((.slice Ao10 t811.length co10) : Value).ownBlock ∧ some k_ ≠ ((.slice Ao47 t842.length co47) : Value).ownBlock ∧ some k_ ≠ ((.slice Ao48 t843.length co48) : Value).ownBlock) v850 t848) ∧ Aside0 (Below w.heap.size w w'))
                         case atStart => exact ⟨(0), ea_, H', ⟨Nat.le_refl _⟩, ⟨rs HO_4⟩, ⟨rs HO_5⟩, ⟨rs HO_25⟩, ⟨rs HO_26⟩, ⟨rs HO_27⟩, ⟨bs HB⟩⟩
                         case round =>
                          clear H'
                          try clear c1
                          try clear c2
                          try clear p2
                          try clear c3
                          try clear c4
                          try clear c5
                          try clear c6
                          try clear c8
                          try clear c13
                          try clear c13b0
                          try clear c13b1
                          try clear c14
                          try clear c21
                          try clear c22
                          try clear c23
                          try clear c23b0
                          try clear c23b1
                          try clear c24
                          try clear c28
                          try clear c29
                          try clear c30
                          try clear c30b0
                          try clear c30b1
                          try clear c31
                          try clear c32
                          try clear c33
                          try clear c34
                          try clear c36
                          try clear c37
                          try clear c37b0
                          try clear c37b1
                          try clear c38
                          try clear c41
                          try clear c51
                          try clear c51b0
                          try clear c51b1
                          try clear c55
                          try clear c57
                          try clear c57b0
                          try clear c57b1
                          try clear c58
                          try clear c58b0
                          try clear c58b1
                          try clear c59
                          try clear c61
                          try clear c61b0
                          try clear c61b1
                          try clear c62
                          try clear c64
                          try clear c66
                          try clear c66b0
                          try clear c66b1
                          try clear p2
                          obtain ⟨x31_8, rfl, HA, HK8, HO_4, HO_5, HO_25, HO_26, HO_27, HB⟩ := hrel
                          cases gk with
                          | zero => exact absurd HA.out (by simp [laws_FnResultants.l0])
                          | succ k8 =>
                           have H := HA.out
                           clear HA
                           simp only [laws_FnResultants.l0] at H
                           by_cases c67 : x31_8 < (t848.length : Int)
                           ·
                            rw [if_pos c67] at H
                            have c67b0 : decide (x31_8 < (t848.length : Int)) = true := decide_eq_true c67
                            clear c67
                            by_cases c68 : 0 ≤ x31_8
                            ·
                             rw [if_pos c68] at H
                             have c68b0 : decide (0 ≤ x31_8) = true := decide_eq_true c68
                             clear c68
                             replace H := Option.bind_eq_some_iff.mp H
                             obtain ⟨⟨t858, t859⟩, A690, H⟩ := H
                             have A69 := as0 A690
                             clear A690
                             replace H := Option.bind_eq_some_iff.mp H
                             obtain ⟨⟨t861, t862⟩, A700, H⟩ := H
                             have A70 := as0 A700
                             clear A700
                             by_cases c71 : t859 = 0
                             ·
                              rw [if_pos c71] at H
                              have c71b0 : (t859 == 0) = true := beq_iff_eq.mpr c71
                              have c71b1 : (t859 != 0) = false := bne_eq_false_iff_eq.mpr c71
                              clear c71
                              by_cases c72 : t862 = 0
                              ·
                               rw [if_pos c72] at H
                               have c72b0 : (t862 == 0) = true := beq_iff_eq.mpr c72
                               have c72b1 : (t862 != 0) = false := bne_eq_false_iff_eq.mpr c72
                               clear c72
                               by_cases c73 : t858 = 0
                               ·
                                rw [if_pos c73] at H
                                have c73b0 : (t858 == 0) = true := beq_iff_eq.mpr c73
                                have c73b1 : (t858 != 0) = false := bne_eq_false_iff_eq.mpr c73
                                clear c73
                                by_cases c74 : t861 = 0
                                ·
                                 rw [if_pos c74] at H
                                 have c74b0 : (t861 == 0) = true := beq_iff_eq.mpr c74
                                 have c74b1 : (t861 != 0) = false := bne_eq_false_iff_eq.mpr c74
                                 clear c74
                                 have H' := as0 H
                                 clear H
                                 obtain ⟨Ao75, co75, eo75⟩ := Kd.R_slice HO_27.out
                                 subst eo75
                                 have p857 : 0 ≤ (x31_8 : Int) := oa_
                                 have q857 : x31_8 < (t848.length : Int) := oa_
                                 obtain ⟨ad857, e857, hx857_0⟩ := Kd.at_int (Kd.R_reads' HO_27.out).2.2 x31_8 p857 q857
                                 cases e857
                                 replace p857 := eq_true p857
                                 replace q857 := eq_true q857
                                 go_wp2_with (first | ((with_reducible refine gate_callee (f := 39) rfl ?_); refine goesM_ (some 204) rfl rfl Try.func39 #[.int .i64 t841, .slice Ao47 t842.length co47, .int .i64 (rd t848 x31_8)] rfl ?_; (with_reducible refine (impl_ValueAt.calls k8 t841 _ _ t842 (rd t848 x31_8) t858 t859 _ ?side1 ?side2 A69.out).mono ?_); (case side1 => exact cs ((Kd.R_reads' HO_25.out).2.2)); (case side2 => exact (Kd.R_reads' HO_25.out).2.1); rintro e w76 ⟨rfl, hb⟩; refine ⟨_, rfl, ?_⟩; have n0_ := as0 (Kd.R_below (rs HO_4) hb); have n1_ := as0 (Kd.R_below (rs HO_5) hb); have n2_ := as0 (Kd.R_below (rs HO_25) hb); have n3_ := as0 (Kd.R_below (rs HO_26) hb); have n4_ := as0 (Kd.R_below (rs HO_27) hb); have n5_ := as0 (below_step (bs HB) hb); clear HO_4; clear HO_5; clear HO_25; clear HO_26; clear HO_27; clear HB; have HO_4 := n0_; have HO_5 := n1_; have HO_25 := n2_; have HO_26 := n3_; have HO_27 := n4_; have HB := n5_; clear n0_ n1_ n2_ n3_ n4_ n5_; (try clear hb); (try clear hb2); (try clear hk); (try clear hi); have p860 : 0 ≤ (x31_8 : Int) := oa_; have q860 : x31_8 < (t848.length : Int) := oa_; obtain ⟨ad860, e860, hx860_0⟩ := Kd.at_int (Kd.R_reads' HO_27.out).2.2 x31_8 p860 q860; obtain rfl : ad857 = ad860 := (by injection e860); replace p860 := eq_true p860; replace q860 := eq_true q860) | ((with_reducible refine gate_callee (f := 39) rfl ?_); refine goesM_ (some 214) rfl rfl Try.func39 #[.int .i64 t841, .slice Ao48 t843.length co48, .int .i64 (rd t848 x31_8)] rfl ?_; (with_reducible refine (impl_ValueAt.calls k8 t841 _ _ t843 (rd t848 x31_8) t861 t862 _ ?side1 ?side2 A70.out).mono ?_); (case side1 => exact cs ((Kd.R_reads' HO_26.out).2.2)); (case side2 => exact (Kd.R_reads' HO_26.out).2.1); rintro e w77 ⟨rfl, hb⟩; refine ⟨_, rfl, ?_⟩; have n0_ := as0 (Kd.R_below (rs HO_4) hb); have n1_ := as0 (Kd.R_below (rs HO_5) hb); have n2_ := as0 (Kd.R_below (rs HO_25) hb); have n3_ := as0 (Kd.R_below (rs HO_26) hb); have n4_ := as0 (Kd.R_below (rs HO_27) hb); have n5_ := as0 (below_step (bs HB) hb); clear HO_4; clear HO_5; clear HO_25; clear HO_26; clear HO_27; clear HB; have HO_4 := n0_; have HO_5 := n1_; have HO_25 := n2_; have HO_26 := n3_; have HO_27 := n4_; have HB := n5_; clear n0_ n1_ n2_ n3_ n4_ n5_; (try clear hb); (try clear hb2); (try clear hk); (try clear hi)))
                                 go_roundg k8
                                 case measure => have := HJ6.out; have := HJ17.out; have := HJ26.out; have := HJ33.out; have := HJ44.out; have := HJ55.out; have := HJ59.out; have := HK8.out; omega
                                 case rel => exact ⟨(wrap64 (x31_8 + 1)), ea_, H', ⟨by have := HJ6.out; have := HJ17.out; have := HJ26.out; have := HJ33.out; have := HJ44.out; have := HJ55.out; have := HJ59.out; have := HK8.out; omega⟩, ⟨rs HO_4⟩, ⟨rs HO_5⟩, ⟨rs HO_25⟩, ⟨rs HO_26⟩, ⟨rs HO_27⟩, ⟨bs HB⟩⟩
                                ·
                                 rw [if_neg c74] at H
                                 have c74b0 : (t861 == 0) = false := beq_eq_false_iff_ne.mpr c74
                                 have c74b1 : (t861 != 0) = true := bne_iff_ne.mpr c74
                                 obtain rfl := Option.some.inj H
                                 obtain ⟨Ao78, co78, eo78⟩ := Kd.R_slice HO_27.out
                                 subst eo78
                                 have p857 : 0 ≤ (x31_8 : Int) := oa_
                                 have q857 : x31_8 < (t848.length : Int) := oa_
                                 obtain ⟨ad857, e857, hx857_0⟩ := Kd.at_int (Kd.R_reads' HO_27.out).2.2 x31_8 p857 q857
                                 cases e857
                                 replace p857 := eq_true p857
                                 replace q857 := eq_true q857
                                 go_wp2_with (first | ((with_reducible refine gate_callee (f := 39) rfl ?_); refine goesM_ (some 204) rfl rfl Try.func39 #[.int .i64 t841, .slice Ao47 t842.length co47, .int .i64 (rd t848 x31_8)] rfl ?_; (with_reducible refine (impl_ValueAt.calls k8 t841 _ _ t842 (rd t848 x31_8) t858 t859 _ ?side1 ?side2 A69.out).mono ?_); (case side1 => exact cs ((Kd.R_reads' HO_25.out).2.2)); (case side2 => exact (Kd.R_reads' HO_25.out).2.1); rintro e w79 ⟨rfl, hb⟩; refine ⟨_, rfl, ?_⟩; have n0_ := as0 (Kd.R_below (rs HO_4) hb); have n1_ := as0 (Kd.R_below (rs HO_5) hb); have n2_ := as0 (Kd.R_below (rs HO_25) hb); have n3_ := as0 (Kd.R_below (rs HO_26) hb); have n4_ := as0 (Kd.R_below (rs HO_27) hb); have n5_ := as0 (below_step (bs HB) hb); clear HO_4; clear HO_5; clear HO_25; clear HO_26; clear HO_27; clear HB; have HO_4 := n0_; have HO_5 := n1_; have HO_25 := n2_; have HO_26 := n3_; have HO_27 := n4_; have HB := n5_; clear n0_ n1_ n2_ n3_ n4_ n5_; (try clear hb); (try clear hb2); (try clear hk); (try clear hi); have p860 : 0 ≤ (x31_8 : Int) := oa_; have q860 : x31_8 < (t848.length : Int) := oa_; obtain ⟨ad860, e860, hx860_0⟩ := Kd.at_int (Kd.R_reads' HO_27.out).2.2 x31_8 p860 q860; obtain rfl : ad857 = ad860 := (by injection e860); replace p860 := eq_true p860; replace q860 := eq_true q860) | ((with_reducible refine gate_callee (f := 39) rfl ?_); refine goesM_ (some 214) rfl rfl Try.func39 #[.int .i64 t841, .slice Ao48 t843.length co48, .int .i64 (rd t848 x31_8)] rfl ?_; (with_reducible refine (impl_ValueAt.calls k8 t841 _ _ t843 (rd t848 x31_8) t861 t862 _ ?side1 ?side2 A70.out).mono ?_); (case side1 => exact cs ((Kd.R_reads' HO_26.out).2.2)); (case side2 => exact (Kd.R_reads' HO_26.out).2.1); rintro e w80 ⟨rfl, hb⟩; refine ⟨_, rfl, ?_⟩; have n0_ := as0 (Kd.R_below (rs HO_4) hb); have n1_ := as0 (Kd.R_below (rs HO_5) hb); have n2_ := as0 (Kd.R_below (rs HO_25) hb); have n3_ := as0 (Kd.R_below (rs HO_26) hb); have n4_ := as0 (Kd.R_below (rs HO_27) hb); have n5_ := as0 (below_step (bs HB) hb); clear HO_4; clear HO_5; clear HO_25; clear HO_26; clear HO_27; clear HB; have HO_4 := n0_; have HO_5 := n1_; have HO_25 := n2_; have HO_26 := n3_; have HO_27 := n4_; have HB := n5_; clear n0_ n1_ n2_ n3_ n4_ n5_; (try clear hb); (try clear hb2); (try clear hk); (try clear hi)))
                                 go_ret
                                 exact ⟨er_, bs HB⟩
                               ·
                                rw [if_neg c73] at H
                                have c73b0 : (t858 == 0) = false := beq_eq_false_iff_ne.mpr c73
                                have c73b1 : (t858 != 0) = true := bne_iff_ne.mpr c73
                                obtain rfl := Option.some.inj H
                                obtain ⟨Ao81, co81, eo81⟩ := Kd.R_slice HO_27.out
                                subst eo81
                                have p857 : 0 ≤ (x31_8 : Int) := oa_
                                have q857 : x31_8 < (t848.length : Int) := oa_
                                obtain ⟨ad857, e857, hx857_0⟩ := Kd.at_int (Kd.R_reads' HO_27.out).2.2 x31_8 p857 q857
                                cases e857
                                replace p857 := eq_true p857
                                replace q857 := eq_true q857
                                go_wp2_with (first | ((with_reducible refine gate_callee (f := 39) rfl ?_); refine goesM_ (some 204) rfl rfl Try.func39 #[.int .i64 t841, .slice Ao47 t842.length co47, .int .i64 (rd t848 x31_8)] rfl ?_; (with_reducible refine (impl_ValueAt.calls k8 t841 _ _ t842 (rd t848 x31_8) t858 t859 _ ?side1 ?side2 A69.out).mono ?_); (case side1 => exact cs ((Kd.R_reads' HO_25.out).2.2)); (case side2 => exact (Kd.R_reads' HO_25.out).2.1); rintro e w82 ⟨rfl, hb⟩; refine ⟨_, rfl, ?_⟩; have n0_ := as0 (Kd.R_below (rs HO_4) hb); have n1_ := as0 (Kd.R_below (rs HO_5) hb); have n2_ := as0 (Kd.R_below (rs HO_25) hb); have n3_ := as0 (Kd.R_below (rs HO_26) hb); have n4_ := as0 (Kd.R_below (rs HO_27) hb); have n5_ := as0 (below_step (bs HB) hb); clear HO_4; clear HO_5; clear HO_25; clear HO_26; clear HO_27; clear HB; have HO_4 := n0_; have HO_5 := n1_; have HO_25 := n2_; have HO_26 := n3_; have HO_27 := n4_; have HB := n5_; clear n0_ n1_ n2_ n3_ n4_ n5_; (try clear hb); (try clear hb2); (try clear hk); (try clear hi); have p860 : 0 ≤ (x31_8 : Int) := oa_; have q860 : x31_8 < (t848.length : Int) := oa_; obtain ⟨ad860, e860, hx860_0⟩ := Kd.at_int (Kd.R_reads' HO_27.out).2.2 x31_8 p860 q860; obtain rfl : ad857 = ad860 := (by injection e860); replace p860 := eq_true p860; replace q860 := eq_true q860) | ((with_reducible refine gate_callee (f := 39) rfl ?_); refine goesM_ (some 214) rfl rfl Try.func39 #[.int .i64 t841, .slice Ao48 t843.length co48, .int .i64 (rd t848 x31_8)] rfl ?_; (with_reducible refine (impl_ValueAt.calls k8 t841 _ _ t843 (rd t848 x31_8) t861 t862 _ ?side1 ?side2 A70.out).mono ?_); (case side1 => exact cs ((Kd.R_reads' HO_26.out).2.2)); (case side2 => exact (Kd.R_reads' HO_26.out).2.1); rintro e w83 ⟨rfl, hb⟩; refine ⟨_, rfl, ?_⟩; have n0_ := as0 (Kd.R_below (rs HO_4) hb); have n1_ := as0 (Kd.R_below (rs HO_5) hb); have n2_ := as0 (Kd.R_below (rs HO_25) hb); have n3_ := as0 (Kd.R_below (rs HO_26) hb); have n4_ := as0 (Kd.R_below (rs HO_27) hb); have n5_ := as0 (below_step (bs HB) hb); clear HO_4; clear HO_5; clear HO_25; clear HO_26; clear HO_27; clear HB; have HO_4 := n0_; have HO_5 := n1_; have HO_25 := n2_; have HO_26 := n3_; have HO_27 := n4_; have HB := n5_; clear n0_ n1_ n2_ n3_ n4_ n5_; (try clear hb); (try clear hb2); (try clear hk); (try clear hi)))
                                go_ret
                                exact ⟨er_, bs HB⟩
                              ·
                               rw [if_neg c72] at H
                               have c72b0 : (t862 == 0) = false := beq_eq_false_iff_ne.mpr c72
                               have c72b1 : (t862 != 0) = true := bne_iff_ne.mpr c72
                               obtain rfl := Option.some.inj H
                               obtain ⟨Ao84, co84, eo84⟩ := Kd.R_slice HO_27.out
                               subst eo84
                               have p857 : 0 ≤ (x31_8 : Int) := oa_
                               have q857 : x31_8 < (t848.length : Int) := oa_
                               obtain ⟨ad857, e857, hx857_0⟩ := Kd.at_int (Kd.R_reads' HO_27.out).2.2 x31_8 p857 q857
                               cases e857
                               replace p857 := eq_true p857
                               replace q857 := eq_true q857
                               go_wp2_with (first | ((with_reducible refine gate_callee (f := 39) rfl ?_); refine goesM_ (some 204) rfl rfl Try.func39 #[.int .i64 t841, .slice Ao47 t842.length co47, .int .i64 (rd t848 x31_8)] rfl ?_; (with_reducible refine (impl_ValueAt.calls k8 t841 _ _ t842 (rd t848 x31_8) t858 t859 _ ?side1 ?side2 A69.out).mono ?_); (case side1 => exact cs ((Kd.R_reads' HO_25.out).2.2)); (case side2 => exact (Kd.R_reads' HO_25.out).2.1); rintro e w85 ⟨rfl, hb⟩; refine ⟨_, rfl, ?_⟩; have n0_ := as0 (Kd.R_below (rs HO_4) hb); have n1_ := as0 (Kd.R_below (rs HO_5) hb); have n2_ := as0 (Kd.R_below (rs HO_25) hb); have n3_ := as0 (Kd.R_below (rs HO_26) hb); have n4_ := as0 (Kd.R_below (rs HO_27) hb); have n5_ := as0 (below_step (bs HB) hb); clear HO_4; clear HO_5; clear HO_25; clear HO_26; clear HO_27; clear HB; have HO_4 := n0_; have HO_5 := n1_; have HO_25 := n2_; have HO_26 := n3_; have HO_27 := n4_; have HB := n5_; clear n0_ n1_ n2_ n3_ n4_ n5_; (try clear hb); (try clear hb2); (try clear hk); (try clear hi); have p860 : 0 ≤ (x31_8 : Int) := oa_; have q860 : x31_8 < (t848.length : Int) := oa_; obtain ⟨ad860, e860, hx860_0⟩ := Kd.at_int (Kd.R_reads' HO_27.out).2.2 x31_8 p860 q860; obtain rfl : ad857 = ad860 := (by injection e860); replace p860 := eq_true p860; replace q860 := eq_true q860) | ((with_reducible refine gate_callee (f := 39) rfl ?_); refine goesM_ (some 214) rfl rfl Try.func39 #[.int .i64 t841, .slice Ao48 t843.length co48, .int .i64 (rd t848 x31_8)] rfl ?_; (with_reducible refine (impl_ValueAt.calls k8 t841 _ _ t843 (rd t848 x31_8) t861 t862 _ ?side1 ?side2 A70.out).mono ?_); (case side1 => exact cs ((Kd.R_reads' HO_26.out).2.2)); (case side2 => exact (Kd.R_reads' HO_26.out).2.1); rintro e w86 ⟨rfl, hb⟩; refine ⟨_, rfl, ?_⟩; have n0_ := as0 (Kd.R_below (rs HO_4) hb); have n1_ := as0 (Kd.R_below (rs HO_5) hb); have n2_ := as0 (Kd.R_below (rs HO_25) hb); have n3_ := as0 (Kd.R_below (rs HO_26) hb); have n4_ := as0 (Kd.R_below (rs HO_27) hb); have n5_ := as0 (below_step (bs HB) hb); clear HO_4; clear HO_5; clear HO_25; clear HO_26; clear HO_27; clear HB; have HO_4 := n0_; have HO_5 := n1_; have HO_25 := n2_; have HO_26 := n3_; have HO_27 := n4_; have HB := n5_; clear n0_ n1_ n2_ n3_ n4_ n5_; (try clear hb); (try clear hb2); (try clear hk); (try clear hi)))
                               go_ret
                               exact ⟨er_, bs HB⟩
                             ·
                              rw [if_neg c71] at H
                              have c71b0 : (t859 == 0) = false := beq_eq_false_iff_ne.mpr c71
                              have c71b1 : (t859 != 0) = true := bne_iff_ne.mpr c71
                              obtain rfl := Option.some.inj H
                              obtain ⟨Ao87, co87, eo87⟩ := Kd.R_slice HO_27.out
                              subst eo87
                              have p857 : 0 ≤ (x31_8 : Int) := oa_
                              have q857 : x31_8 < (t848.length : Int) := oa_
                              obtain ⟨ad857, e857, hx857_0⟩ := Kd.at_int (Kd.R_reads' HO_27.out).2.2 x31_8 p857 q857
                              cases e857
                              replace p857 := eq_true p857
                              replace q857 := eq_true q857
                              go_wp2_with (first | ((with_reducible refine gate_callee (f := 39) rfl ?_); refine goesM_ (some 204) rfl rfl Try.func39 #[.int .i64 t841, .slice Ao47 t842.length co47, .int .i64 (rd t848 x31_8)] rfl ?_; (with_reducible refine (impl_ValueAt.calls k8 t841 _ _ t842 (rd t848 x31_8) t858 t859 _ ?side1 ?side2 A69.out).mono ?_); (case side1 => exact cs ((Kd.R_reads' HO_25.out).2.2)); (case side2 => exact (Kd.R_reads' HO_25.out).2.1); rintro e w88 ⟨rfl, hb⟩; refine ⟨_, rfl, ?_⟩; have n0_ := as0 (Kd.R_below (rs HO_4) hb); have n1_ := as0 (Kd.R_below (rs HO_5) hb); have n2_ := as0 (Kd.R_below (rs HO_25) hb); have n3_ := as0 (Kd.R_below (rs HO_26) hb); have n4_ := as0 (Kd.R_below (rs HO_27) hb); have n5_ := as0 (below_step (bs HB) hb); clear HO_4; clear HO_5; clear HO_25; clear HO_26; clear HO_27; clear HB; have HO_4 := n0_; have HO_5 := n1_; have HO_25 := n2_; have HO_26 := n3_; have HO_27 := n4_; have HB := n5_; clear n0_ n1_ n2_ n3_ n4_ n5_; (try clear hb); (try clear hb2); (try clear hk); (try clear hi); have p860 : 0 ≤ (x31_8 : Int) := oa_; have q860 : x31_8 < (t848.length : Int) := oa_; obtain ⟨ad860, e860, hx860_0⟩ := Kd.at_int (Kd.R_reads' HO_27.out).2.2 x31_8 p860 q860; obtain rfl : ad857 = ad860 := (by injection e860); replace p860 := eq_true p860; replace q860 := eq_true q860) | ((with_reducible refine gate_callee (f := 39) rfl ?_); refine goesM_ (some 214) rfl rfl Try.func39 #[.int .i64 t841, .slice Ao48 t843.length co48, .int .i64 (rd t848 x31_8)] rfl ?_; (with_reducible refine (impl_ValueAt.calls k8 t841 _ _ t843 (rd t848 x31_8) t861 t862 _ ?side1 ?side2 A70.out).mono ?_); (case side1 => exact cs ((Kd.R_reads' HO_26.out).2.2)); (case side2 => exact (Kd.R_reads' HO_26.out).2.1); rintro e w89 ⟨rfl, hb⟩; refine ⟨_, rfl, ?_⟩; have n0_ := as0 (Kd.R_below (rs HO_4) hb); have n1_ := as0 (Kd.R_below (rs HO_5) hb); have n2_ := as0 (Kd.R_below (rs HO_25) hb); have n3_ := as0 (Kd.R_below (rs HO_26) hb); have n4_ := as0 (Kd.R_below (rs HO_27) hb); have n5_ := as0 (below_step (bs HB) hb); clear HO_4; clear HO_5; clear HO_25; clear HO_26; clear HO_27; clear HB; have HO_4 := n0_; have HO_5 := n1_; have HO_25 := n2_; have HO_26 := n3_; have HO_27 := n4_; have HB := n5_; clear n0_ n1_ n2_ n3_ n4_ n5_; (try clear hb); (try clear hb2); (try clear hk); (try clear hi)))
                              go_ret
                              exact ⟨er_, bs HB⟩
                            ·
                             rw [if_neg c68] at H
                             exact absurd H (by simp)
                           ·
                            rw [if_neg c67] at H
                            have c67b0 : decide (x31_8 < (t848.length : Int)) = false := decide_eq_false c67
                            clear c67
                            have H' := as0 H
                            clear H
                            obtain ⟨Ao90, co90, eo90⟩ := Kd.R_slice HO_27.out
                            subst eo90
                            go_wp2
                            go_meet
                            case rel => exact ⟨_, H', ⟨by have := HJ6.out; have := HJ17.out; have := HJ26.out; have := HJ33.out; have := HJ44.out; have := HJ55.out; have := HJ59.out; have := HK8.out; first | omega | exact Nat.le_refl _⟩, ⟨by (with_reducible repeat (first | apply Kd.R_alloc | apply Kd.R_drewN | apply Kd.R_drew)); exact Kd.R_mono HO_4.out (fun _ hk => hk.1)⟩, ⟨by (with_reducible repeat (first | apply Kd.R_alloc | apply Kd.R_drewN | apply Kd.R_drew)); exact Kd.R_mono HO_5.out (fun _ hk => hk.1)⟩, ⟨bs HB⟩⟩
                        ·
                         rw [if_neg c66] at H
                         have c66b0 : (t849 == 0) = false := beq_eq_false_iff_ne.mpr c66
                         have c66b1 : (t849 != 0) = true := bne_iff_ne.mpr c66
                         (first | rw [c66b0] | (simp only [i64_w, i32_w]; rw [c66b0]) | skip)
                         have H' := as0 H
                         clear H
                         go_wp2
                         go_meet
                         case rel => exact ⟨_, H', ⟨by have := HJ6.out; have := HJ17.out; have := HJ26.out; have := HJ33.out; have := HJ44.out; have := HJ55.out; have := HJ59.out; first | omega | exact Nat.le_refl _⟩, ⟨by (with_reducible repeat (first | apply Kd.R_alloc | apply Kd.R_drewN | apply Kd.R_drew)); exact Kd.R_mono HO_4.out (fun _ hk => hk.1)⟩, ⟨by (with_reducible repeat (first | apply Kd.R_alloc | apply Kd.R_drewN | apply Kd.R_drew)); exact Kd.R_mono HO_5.out (fun _ hk => hk.1)⟩, ⟨bs HB⟩⟩
                       case rest => as_aux_lemma =>
                        clear HC65
                        try clear c1
                        try clear c2
                        try clear p2
                        try clear c3
                        try clear c4
                        try clear c5
                        try clear c6
                        try clear p6
                        try clear c7
                        try clear c8
                        try clear p8
                        try clear q8
                        try clear hx8
                        try clear c13
                        try clear c13b0
                        try clear c13b1
                        try clear c14
                        try clear c21
                        try clear c22
                        try clear c23
                        try clear c23b0
                        try clear c23b1
                        try clear c24
                        try clear c28
                        try clear c29
                        try clear c30
                        try clear c30b0
                        try clear c30b1
                        try clear c31
                        try clear c32
                        try clear c33
                        try clear c34
                        try clear c36
                        try clear c37
                        try clear c37b0
                        try clear c37b1
                        try clear c38
                        try clear c39
                        try clear c41
                        try clear c51
                        try clear c51b0
                        try clear c51b1
                        try clear c55
                        try clear c57
                        try clear c57b0
                        try clear c57b1
                        try clear c58
                        try clear c58b0
                        try clear c58b1
                        try clear c59
                        try clear c61
                        try clear c61b0
                        try clear c61b1
                        try clear c62
                        try clear c64
                        try clear p64
                        try clear c66
                        try clear c66b0
                        try clear c66b1
                        try clear c67
                        try clear c67b0
                        try clear c68
                        try clear c68b0
                        try clear c71
                        try clear c71b0
                        try clear c71b1
                        try clear c72
                        try clear c72b0
                        try clear c72b1
                        try clear c73
                        try clear c73b0
                        try clear c73b1
                        try clear c74
                        try clear c74b0
                        try clear c74b1
                        try clear p85
                        try clear q85
                        try clear hx85
                        try clear p86
                        try clear q86
                        try clear hx86
                        try clear hx857_0
                        try clear hx860_0
                        try clear p2
                        try clear p857
                        try clear p860
                        try clear q857
                        try clear q860
                        obtain ⟨kq, HA, HJ64, HO_4, HO_5, HB⟩ := hcut
                        cases kq with
                        | zero => exact absurd HA.out (by simp [laws_FnResultants.j8])
                        | succ kj64 =>
                         have H := HA.out
                         clear HA
                         simp only [laws_FnResultants.j8] at H
                         by_cases c91 : t817 = 0
                         ·
                          rw [if_pos c91] at H
                          have c91b0 : (t817 == 0) = true := beq_iff_eq.mpr c91
                          have c91b1 : (t817 != 0) = false := bne_eq_false_iff_eq.mpr c91
                          clear c91
                          replace H := Option.bind_eq_some_iff.mp H
                          obtain ⟨⟨t863, t864⟩, A920, H⟩ := H
                          have A92 := as0 A920
                          clear A920
                          replace H := Option.bind_eq_some_iff.mp H
                          obtain ⟨⟨t867, t868⟩, A930, H⟩ := H
                          have A93 := as0 A930
                          clear A930
                          have HC94 := as0 H
                          clear H
                          go_upto_region 42 with (first | ((with_reducible refine gate_callee (f := 40) rfl ?_); refine goesM_ (some 239) rfl rfl Try.func40 #[.int .i64 t809, .slice Ao9 t810.length co9, .slice Ao10 t811.length co10] rfl ?_; (with_reducible refine (impl_GcdPolys.calls kj64 t809 _ _ t810 _ _ t811 t863 t864 _ ?side1 ?side2 ?side3 ?side4 A92.out).mono ?_); (case side1 => exact cs ((Kd.R_reads' HO_4.out).2.2)); (case side2 => exact (Kd.R_reads' HO_4.out).2.1); (case side3 => exact cs ((Kd.R_reads' HO_5.out).2.2)); (case side4 => exact (Kd.R_reads' HO_5.out).2.1); rintro e w95 ⟨v865, rfl, ho0, hb⟩; refine ⟨_, rfl, ?_⟩; have n0_ := as0 (Kd.R_elder' (rs HO_4) (Kd.R_base ho0) hb); have n1_ := as0 (Kd.R_elder' (rs HO_5) (Kd.R_base ho0) hb); have n2_ := as0 (Kd.R_lower (Kd.R_new' (Kd.R_new' ho0 (Kd.R_lt (rs HO_4))) (Kd.R_lt (rs HO_5))) (below_size (bs HB))); have n3_ := as0 (below_step (bs HB) hb); clear HO_4; clear HO_5; clear HB; have HO_4 := n0_; have HO_5 := n1_; have HO866 := n2_; have HB := n3_; clear n0_ n1_ n2_ n3_; (try clear hb); (try clear hb2); (try clear hk); (try clear hi); (try clear ho0)) | ((with_reducible refine gate_callee (f := 22) rfl ?_); refine goesM_ (some 246) rfl rfl Try.func22 #[.int .i64 t809, .slice Ao10 t811.length co10, .slice Ao9 t810.length co9] rfl ?_; (with_reducible refine (impl_ResultantOf.calls kj64 t809 _ _ t811 _ _ t810 t867 t868 _ ?side1 ?side2 ?side3 ?side4 A93.out).mono ?_); (case side1 => exact cs ((Kd.R_reads' HO_5.out).2.2)); (case side2 => exact (Kd.R_reads' HO_5.out).2.1); (case side3 => exact cs ((Kd.R_reads' HO_4.out).2.2)); (case side4 => exact (Kd.R_reads' HO_4.out).2.1); rintro e w96 ⟨rfl, hb⟩; refine ⟨_, rfl, ?_⟩; have n0_ := as0 (Kd.R_below (rs HO_4) hb); have n1_ := as0 (Kd.R_below (rs HO_5) hb); have n2_ := as0 (Kd.R_below (rs HO866) hb); have n3_ := as0 (below_step (bs HB) hb); clear HO_4; clear HO_5; clear HO866; clear HB; have HO_4 := n0_; have HO_5 := n1_; have HO866 := n2_; have HB := n3_; clear n0_ n1_ n2_ n3_; (try clear hb); (try clear hb2); (try clear hk); (try clear hi)))
                          (try simp only [Act.put, List.setIfInBounds_toArray, List.set_cons_zero, List.set_cons_succ])
                          go_cut [262] from 231 to 248 (fun v262 wc => ∃ (kq : Nat) (x262_93 : Bool), v262 = .bool x262_93 ∧ Aside0 (laws_FnResultants.j9 kq t809 t810 t811 t816 t867 x262_93 = some r) ∧ Aside0 (kq ≤ kj64) ∧ Aside0 (Kd.R (Kd.int .i64) 2 wc w.heap.size (fun k_ => some k_ ≠ ((.slice Ao10 t811.length co10) : Value).ownBlock) (.slice Ao9 t810.length co9) t810) ∧ Aside0 (Kd.R (Kd.int .i64) 2 wc w.heap.size (fun k_ => some k_ ≠ ((.slice Ao9 t810.length co9) : Value).ownBlock) (.slice Ao10 t811.length co10) t811) ∧ Aside0 (Below w.heap.size w wc))
                          case first =>
                           have H := HC94.out
                           clear HC94
                           by_cases c97 : t864 = 0
                           ·
                            rw [if_pos c97] at H
                            have c97b0 : (t864 == 0) = true := beq_iff_eq.mpr c97
                            have c97b1 : (t864 != 0) = false := bne_eq_false_iff_eq.mpr c97
                            clear c97
                            (first | rw [c97b0] | (simp only [i64_w, i32_w]; rw [c97b0]) | skip)
                            by_cases c98 : t868 = 0
                            ·
                             rw [if_pos c98] at H
                             have c98b0 : (t868 == 0) = true := beq_iff_eq.mpr c98
                             have c98b1 : (t868 != 0) = false := bne_eq_false_iff_eq.mpr c98
                             clear c98
                             have H' := as0 H
                             clear H
                             obtain ⟨Ao99, co99, eo99⟩ := Kd.R_slice HO866.out
                             subst eo99
                             go_wp2
                             go_meet
                             case rel => exact ⟨_, (((t816 == 0) != (decide ((t863.length : Int) > 1)))), ea_, H', ⟨by have := HJ6.out; have := HJ17.out; have := HJ26.out; have := HJ33.out; have := HJ44.out; have := HJ55.out; have := HJ59.out; have := HJ64.out; first | omega | exact Nat.le_refl _⟩, ⟨by (with_reducible repeat (first | apply Kd.R_alloc | apply Kd.R_drewN | apply Kd.R_drew)); exact Kd.R_mono HO_4.out (fun _ hk => hk.1)⟩, ⟨by (with_reducible repeat (first | apply Kd.R_alloc | apply Kd.R_drewN | apply Kd.R_drew)); exact Kd.R_mono HO_5.out (fun _ hk => hk.1)⟩, ⟨bs HB⟩⟩
                            ·
                             rw [if_neg c98] at H
                             have c98b0 : (t868 == 0) = false := beq_eq_false_iff_ne.mpr c98
                             have c98b1 : (t868 != 0) = true := bne_iff_ne.mpr c98
                             have H' := as0 H
                             clear H
                             go_wp2
                             go_meet
                             case rel => exact ⟨_, (true), ea_, H', ⟨by have := HJ6.out; have := HJ17.out; have := HJ26.out; have := HJ33.out; have := HJ44.out; have := HJ55.out; have := HJ59.out; have := HJ64.out; first | omega | exact Nat.le_refl _⟩, ⟨by (with_reducible repeat (first | apply Kd.R_alloc | apply Kd.R_drewN | apply Kd.R_drew)); exact Kd.R_mono HO_4.out (fun _ hk => hk.1)⟩, ⟨by (with_reducible repeat (first | apply Kd.R_alloc | apply Kd.R_drewN | apply Kd.R_drew)); exact Kd.R_mono HO_5.out (fun _ hk => hk.1)⟩, ⟨bs HB⟩⟩
                           ·
                            rw [if_neg c97] at H
                            have c97b0 : (t864 == 0) = false := beq_eq_false_iff_ne.mpr c97
                            have c97b1 : (t864 != 0) = true := bne_iff_ne.mpr c97
                            (first | rw [c97b0] | (simp only [i64_w, i32_w]; rw [c97b0]) | skip)
                            have H' := as0 H
                            clear H
                            go_wp2
                            go_meet
                            case rel => exact ⟨_, (true), ea_, H', ⟨by have := HJ6.out; have := HJ17.out; have := HJ26.out; have := HJ33.out; have := HJ44.out; have := HJ55.out; have := HJ59.out; have := HJ64.out; first | omega | exact Nat.le_refl _⟩, ⟨by (with_reducible repeat (first | apply Kd.R_alloc | apply Kd.R_drewN | apply Kd.R_drew)); exact Kd.R_mono HO_4.out (fun _ hk => hk.1)⟩, ⟨by (with_reducible repeat (first | apply Kd.R_alloc | apply Kd.R_drewN | apply Kd.R_drew)); exact Kd.R_mono HO_5.out (fun _ hk => hk.1)⟩, ⟨bs HB⟩⟩
                          case rest => as_aux_lemma =>
                           clear HC94
                           try clear c1
                           try clear c2
                           try clear p2
                           try clear c3
                           try clear c4
                           try clear c5
                           try clear c6
                           try clear p6
                           try clear c7
                           try clear c8
                           try clear p8
                           try clear q8
                           try clear hx8
                           try clear c9
                           try clear c13
                           try clear c13b0
                           try clear c13b1
                           try clear c14
                           try clear c21
                           try clear c22
                           try clear c23
                           try clear c23b0
                           try clear c23b1
                           try clear c24
                           try clear c28
                           try clear c29
                           try clear c30
                           try clear c30b0
                           try clear c30b1
                           try clear c31
                           try clear c32
                           try clear c33
                           try clear c34
                           try clear c36
                           try clear c37
                           try clear c37b0
                           try clear c37b1
                           try clear c38
                           try clear c39
                           try clear c40
                           try clear c41
                           try clear c51
                           try clear c51b0
                           try clear c51b1
                           try clear c55
                           try clear c57
                           try clear c57b0
                           try clear c57b1
                           try clear c58
                           try clear c58b0
                           try clear c58b1
                           try clear c59
                           try clear c61
                           try clear c61b0
                           try clear c61b1
                           try clear c62
                           try clear c64
                           try clear p64
                           try clear c66
                           try clear c66b0
                           try clear c66b1
                           try clear c67
                           try clear c67b0
                           try clear c68
                           try clear c68b0
                           try clear c71
                           try clear c71b0
                           try clear c71b1
                           try clear c72
                           try clear c72b0
                           try clear c72b1
                           try clear c73
                           try clear c73b0
                           try clear c73b1
                           try clear c74
                           try clear c74b0
                           try clear c74b1
                           try clear p85
                           try clear q85
                           try clear hx85
                           try clear p86
                           try clear q86
                           try clear hx86
                           try clear c91
                           try clear c91b0
                           try clear c91b1
                           try clear c97
                           try clear c97b0
                           try clear c97b1
                           try clear c98
                           try clear c98b0
                           try clear c98b1
                           try clear hx857_0
                           try clear hx860_0
                           try clear p2
                           try clear p6
                           try clear p64
                           try clear p8
                           try clear p85
                           try clear p857
                           try clear p86
                           try clear p860
                           try clear q8
                           try clear q85
                           try clear q857
                           try clear q86
                           try clear q860
                           obtain ⟨kq, x262_93, rfl, HA, HJ93, HO_4, HO_5, HB⟩ := hcut
                           cases kq with
                           | zero => exact absurd HA.out (by simp [laws_FnResultants.j9])
                           | succ kj93 =>
                            have H := HA.out
                            clear HA
                            simp only [laws_FnResultants.j9] at H
                            by_cases c100 : x262_93 = true
                            ·
                             subst c100
                             have H1 : (some false) = some r := by rw [if_pos rfl] at H; exact H
                             clear H
                             have H := H1
                             clear H1
                             obtain rfl := Option.some.inj H
                             go_wp2
                             go_ret
                             exact ⟨er_, bs HB⟩
                            ·
                             replace c100 := Bool.eq_false_iff.mpr c100
                             subst c100
                             have H1 : (if (Int.tmod (wrap64 ((wrap64 ((t810.length : Int) - 1)) * (wrap64 ((t811.length : Int) - 1)))) 2) = 1 then (if t809 = 0 then (none) else (some ((Int.tmod (wrap64 (t809 - t867)) t809) == t816))) else (some (t867 == t816))) = some r := by rw [if_neg (show ¬ (false = true) by decide)] at H; exact H
                             clear H
                             have H := H1
                             clear H1
                             by_cases c101 : (Int.tmod (wrap64 ((wrap64 ((t810.length : Int) - 1)) * (wrap64 ((t811.length : Int) - 1)))) 2) = 1
                             ·
                              rw [if_pos c101] at H
                              have c101b0 : ((Int.tmod (wrap64 ((wrap64 ((t810.length : Int) - 1)) * (wrap64 ((t811.length : Int) - 1)))) 2) == 1) = true := beq_iff_eq.mpr c101
                              have c101b1 : ((Int.tmod (wrap64 ((wrap64 ((t810.length : Int) - 1)) * (wrap64 ((t811.length : Int) - 1)))) 2) != 1) = false := bne_eq_false_iff_eq.mpr c101
                              clear c101
                              by_cases c102 : t809 = 0
                              ·
                               rw [if_pos c102] at H
                               exact absurd H (by simp)
                              ·
                               rw [if_neg c102] at H
                               have c102b0 : (t809 == 0) = false := beq_eq_false_iff_ne.mpr c102
                               have c102b1 : (t809 != 0) = true := bne_iff_ne.mpr c102
                               obtain rfl := Option.some.inj H
                               go_wp2
                               go_ret
                               exact ⟨er_, bs HB⟩
                             ·
                              rw [if_neg c101] at H
                              have c101b0 : ((Int.tmod (wrap64 ((wrap64 ((t810.length : Int) - 1)) * (wrap64 ((t811.length : Int) - 1)))) 2) == 1) = false := beq_eq_false_iff_ne.mpr c101
                              have c101b1 : ((Int.tmod (wrap64 ((wrap64 ((t810.length : Int) - 1)) * (wrap64 ((t811.length : Int) - 1)))) 2) != 1) = true := bne_iff_ne.mpr c101
                              obtain rfl := Option.some.inj H
                              go_wp2
                              go_ret
                              exact ⟨er_, bs HB⟩
                         ·
                          rw [if_neg c91] at H
                          have c91b0 : (t817 == 0) = false := beq_eq_false_iff_ne.mpr c91
                          have c91b1 : (t817 != 0) = true := bne_iff_ne.mpr c91
                          obtain rfl := Option.some.inj H
                          go_wp2
                          go_ret
                          exact ⟨er_, bs HB⟩
def laws_FnResultants.Pure : Prop := ∀ (l0 : List Int), l0.length ≤ maxLen → l0.length * 1 ≤ 140737488351232 → (∀ x ∈ l0, (Lit.int .u8 x).wf = true) → ∃ k, laws_FnResultants.f k l0 = some true
theorem laws_FnResultants.walk (P : laws_FnResultants.Pure) (a0 : Option Addr) (len0 cap0 : Nat) (z0 : List Int) (w : World) (w0 : (a0 = none ∧ len0 = 0 ∧ cap0 = 0 ∧ z0 = []) ∨ ∃ x, a0 = some x ∧ len0 ≤ cap0 ∧ cap0 ≤ maxLen ∧ z0.length = cap0 ∧ (∀ i, i < z0.length → w.cell? (x.add i) = some (.int .u8 (z0.getD i 0))) ∧ ∀ n ∈ z0, (Lit.int .u8 n).wf = true) (y0 : len0 * 1 ≤ 140737488351232) :
  Calls Try.prog 8 #[.slice a0 len0 cap0] w fun e w' => e = .returned (.bool true) ∧ Below w.heap.size w w' := by
 obtain ⟨l0, rfl, hr0, hm0, hw0, hc0⟩ := ReadsInt.ofRowC w0
 obtain ⟨k, h⟩ := P l0 hm0 y0 hw0
 refine (laws_FnResultants.calls k _ _ l0 true w (Kd.C_of_reads (d := (0 : Int)) (h1 := fun _ => rfl) hr0) hc0 h).mono ?_
 rintro e w' ⟨rfl, hd⟩
 exact ⟨rfl, hd⟩
end
end Go.Proofs.Ytlmolloallhclaa.H
